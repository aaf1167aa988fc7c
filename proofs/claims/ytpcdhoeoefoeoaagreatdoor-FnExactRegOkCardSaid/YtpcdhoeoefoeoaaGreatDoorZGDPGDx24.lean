/- The walks of the functions that these laws reach, and what each comes to: printed by this session's program. -/
import Derived.Test.YtpcdhoeoefoeoaaGreatDoorZGDPGDx0
import Derived.Test.YtpcdhoeoefoeoaaGreatDoorZGDPGDx12
import Derived.Test.YtpcdhoeoefoeoaaGreatDoorZGDPGDx14
import Derived.Test.YtpcdhoeoefoeoaaGreatDoorZGDPGDx21
import Derived.Test.YtpcdhoeoefoeoaaGreatDoorZGDSays
import Derived.Test.YtpcdhoeoefoeoaaGreatDoorZGDRegs
import Derived.Test.YtpcdhoeoefoeoaaGreatDoorZGDPGDx1
namespace Go.Proofs.YtpcdhoeoefoeoaaGreatDoor.PGD
open Go.RowKit YtpcdhoeoefoeoaaGreatDoorW.PrintWords YtpcdhoeoefoeoaaGreatDoorW.PrintLast YtpcdhoeoefoeoaaGreatDoorW.PrintMore
attribute [local go_sem high] Mine.str_gtr Mine.str_leq Mine.str_geq
attribute [local go_sem] max2_int min2_int max_two min_two max_three min_three max_four min_four   -- for this text's walks alone
set_option linter.unusedVariables false
set_option maxHeartbeats 8000000
set_option maxRecDepth 100000
set_option linter.unusedSimpArgs false
/-! ### impl_RegOk: function 24 -/
mutual
def impl_RegOk.l0 : Nat → List (S102) → List (S102) → Int → Int → Option (Bool)
 | 0, _, _, _, _ => none
 | k + 1, x0, x5, x6, x7 => if x7 < x6 then (impl_RegOk.j1 k x0 x5 x6 x7) else (some (decide ((x0.length : Int) ≤ 12)))
def impl_RegOk.j1 : Nat → List (S102) → List (S102) → Int → Int → Option (Bool)
 | 0, _, _, _, _ => none
 | k + 1, x0, x5, x6, x7 => if 0 ≤ x7 then (if x7 < (x5.length : Int) then ((impl_NameOk.f k ((rd_T102 x5 x7).f0)).bind fun a0 => (if a0 = true then ((impl_VerOk.f k ((rd_T102 x5 x7).f1.f0) ((rd_T102 x5 x7).f1.f1) ((rd_T102 x5 x7).f1.f2) ((rd_T102 x5 x7).f1.f3)).bind fun a1 => (if a1 = true then ((impl_needsOk.f k ((rd_T102 x5 x7).f2)).bind fun a2 => (if a2 = true then (if x7 > 0 then (if 0 ≤ (wrap64 (x7 - 1)) then (if (wrap64 (x7 - 1)) < (x0.length : Int) then ((impl_lessEntry.f k ((rd_T102 x0 (wrap64 (x7 - 1))).f0) ((rd_T102 x0 (wrap64 (x7 - 1))).f1.f0) ((rd_T102 x0 (wrap64 (x7 - 1))).f1.f1) ((rd_T102 x0 (wrap64 (x7 - 1))).f1.f2) ((rd_T102 x0 (wrap64 (x7 - 1))).f1.f3) ((rd_T102 x0 (wrap64 (x7 - 1))).f2) ((rd_T102 x5 x7).f0) ((rd_T102 x5 x7).f1.f0) ((rd_T102 x5 x7).f1.f1) ((rd_T102 x5 x7).f1.f2) ((rd_T102 x5 x7).f1.f3) ((rd_T102 x5 x7).f2)).bind fun a3 => (if a3 = true then (impl_RegOk.l0 k x0 x5 x6 (wrap64 (x7 + 1))) else (some false))) else (none)) else (none)) else (impl_RegOk.l0 k x0 x5 x6 (wrap64 (x7 + 1)))) else (some false))) else (some false))) else (some false))) else (none)) else (none)
end
def impl_RegOk.f (k : Nat) (l0 : List (S102)) : Option (Bool) := impl_RegOk.l0 k l0 l0 (l0.length : Int) 0
def impl_RegOk.T4 : Bool × List (List Nat × List Nat) := (true, [([], []), ([0], [0]), ([1], [1]), ([2], [2]), ([3, 2], [3]), ([4], [4]), ([5, 4], [4, 5]), ([6, 4, 4], [4, 6]), ([7, 4], [4, 7]), ([4, 8], [4, 8]), ([9, 7], [9]), ([10], [10]), ([11, 10], [10, 11]), ([12, 10, 10], [10, 12]), ([13, 10], [10, 13]), ([10, 14], [10, 14]), ([15, 13], [15]), ([16], [16]), ([17, 16], [16, 17]), ([18, 16, 16], [16, 18]), ([19], [19]), ([19], [19]), ([21, 19], [19, 21]), ([20, 22, 19], [19, 20, 22]), ([23, 19], [19, 23]), ([19], [19]), ([24, 25, 19, 19], [19, 24, 25]), ([26, 19], [19, 26]), ([19, 27, 16], [16, 19, 27]), ([16, 28], [16, 28])])
def impl_RegOk.B4 : List Nat := [0, 1, 3, 7, 15, 31, 63, 127, 255, 511, 1023, 2047, 4095, 8191, 16383, 32767, 65535, 131071, 262143, 524287, 1048575, 1048575, 3145727, 8388607, 16777215, 1048575, 67108863, 134217727, 268435455, 536870911]
theorem impl_RegOk.tab4 : rtab .any (opsOf Tryz.f24 4) = impl_RegOk.T4 := by kernel_rfl
theorem impl_RegOk.bits4 : waitsOk impl_RegOk.T4.2 impl_RegOk.B4 = true := by kernel_rfl
theorem impl_RegOk.calls (k : Nat) (A0 : Option Addr) (c0 : Nat) (l0 : List (S102)) (r : Bool) (w : World) (g6 : Kd.C k102 w A0 l0.length l0) (g7 : l0.length ≤ c0) (hG : GW w) (h : impl_RegOk.f k l0 = some r) :
  Calls Tryz.prog 24 #[.slice A0 l0.length c0] w fun e w' => e = .returned (.bool r) ∧ Below w.heap.size w w' := by
 have j4 := Tryz.underlying102
 have j5 := Tryz.underlying32
 have d7 := zA g6
 have j6 := zA g7
 clear g6 g7
 have HG := zA hG
 clear hG
 have HB := zA (Below.refl w.heap.size w)
 unfold impl_RegOk.f at h
 have H := h
 clear h
 have H' := zA H
 clear H
 go_enter Tryz.func24, Tryz.ntmps24
 go_wp2
 go_loopg [7] k (fun kq v7 w' => ∃ (a0 : Int), v7 = .int .i64 a0 ∧ Aside0 (impl_RegOk.l0 kq l0 l0 (l0.length : Int) a0 = some r) ∧ Aside0 (kq ≤ k) ∧ Aside0 (Below w.heap.size w w'))
 case atStart => exact ⟨(0), zS, H', ⟨Nat.le_refl _⟩, ⟨zB⟩⟩
 case round =>
  clear H'
  obtain ⟨a0, rfl, HA, e1, HB⟩ := hrel
  cases gk with
  | zero => exact absurd HA.out (by simp [impl_RegOk.l0])
  | succ k1 =>
   have H := HA.out
   clear HA
   simp only [impl_RegOk.l0] at H
   have g1 := zA H
   clear H
   go_upto_if 8 with (fail)
   go_cut [] (fun wc => ∃ (kq : Nat), Aside0 (impl_RegOk.j1 kq l0 l0 (l0.length : Int) a0 = some r) ∧ Aside0 (kq ≤ k1) ∧ Aside0 (Below w.heap.size w wc))
   case first =>
    have H := g1.out
    clear g1
    replace H := zI0 H
    rcases H with ⟨e0, H⟩ | ⟨e0, H⟩
    ·(first | rw [e0] | (simp only [i64_w, i32_w]; rw [e0]) | skip)
     have H' := zA H
     clear H
     go_wp2
     go_meet
     case rel => exact ⟨_, (by first | exact H' | (subst_vars; exact H')), ⟨by have := e1.out; first | omega | exact Nat.le_refl _⟩, ⟨zB⟩⟩
    ·(first | rw [e0] | (simp only [i64_w, i32_w]; rw [e0]) | skip)
     obtain rfl := zm H
     go_wp2
     go_ret
     exact ⟨zE, zB⟩
   case rest =>
    clear g1
    try clear c2
    try clear p2
    try clear c3
    try clear e0
    obtain ⟨kq, HA, g0, HB⟩ := hcut
    cases kq with
    | zero => exact absurd HA.out (by simp [impl_RegOk.j1])
    | succ b1 =>
     have H := HA.out
     clear HA
     simp only [impl_RegOk.j1] at H
     replace H := zD0 H
     obtain ⟨j7, H⟩ := H
     replace H := zD0 H
     obtain ⟨j8, H⟩ := H
     replace H := Option.bind_eq_some_iff.mp H
     obtain ⟨j9, g8, H⟩ := H
     try dsimp only at H
     have A6 := zA g8
     clear g8
     replace H := zB0 H
     rcases H with ⟨rfl, H⟩ | ⟨rfl, H⟩
     ·replace H := Option.bind_eq_some_iff.mp H
      obtain ⟨k0, g9, H⟩ := H
      try dsimp only at H
      have A8 := zA g9
      clear g9
      replace H := zB0 H
      rcases H with ⟨rfl, H⟩ | ⟨rfl, H⟩
      ·replace H := Option.bind_eq_some_iff.mp H
       obtain ⟨k2, h0, H⟩ := H
       try dsimp only at H
       have e2 := zA h0
       clear h0
       replace H := zB0 H
       rcases H with ⟨rfl, H⟩ | ⟨rfl, H⟩
       ·replace H := zI1 H
        rcases H with ⟨e3, H⟩ | ⟨e3, H⟩
        ·have i0 : decide (0 < a0) = true := decide_eq_true e3
         clear e3
         obtain ⟨a2, d0⟩ : ∃ j_ : Int, (wrap64 (a0 - 1)) = j_ := ⟨_, rfl⟩
         replace H : (if 0 ≤ (a2) then (if (a2) < (l0.length : Int) then ((impl_lessEntry.f b1 ((rd_T102 l0 (a2)).f0) ((rd_T102 l0 (a2)).f1.f0) ((rd_T102 l0 (a2)).f1.f1) ((rd_T102 l0 (a2)).f1.f2) ((rd_T102 l0 (a2)).f1.f3) ((rd_T102 l0 (a2)).f2) ((rd_T102 l0 a0).f0) ((rd_T102 l0 a0).f1.f0) ((rd_T102 l0 a0).f1.f1) ((rd_T102 l0 a0).f1.f2) ((rd_T102 l0 a0).f1.f3) ((rd_T102 l0 a0).f2)).bind fun h1 => (if h1 = true then (impl_RegOk.l0 b1 l0 l0 (l0.length : Int) (wrap64 (a0 + 1))) else (some false))) else (none)) else (none)) = some r := by first | (rw [d0] at H; exact H) | (simp only [d0] at H ⊢; exact H)
         (try rw [d0] at A6)
         (try rw [d0] at A8)
         (try rw [d0] at e2)
         have hji13w : (IntKind.i64.wrap (a0 - 1)) = a2 := (i64_w _).trans d0
         replace H := zD0 H
         obtain ⟨k3, H⟩ := H
         replace H := zD0 H
         obtain ⟨k4, H⟩ := H
         replace H := Option.bind_eq_some_iff.mp H
         obtain ⟨h1, h2, H⟩ := H
         try dsimp only at H
         have h3 := zA h2
         clear h2
         replace H := zB0 H
         rcases H with ⟨rfl, H⟩ | ⟨rfl, H⟩
         ·have H' := zA H
          clear H
          have a9 : 0 ≤ (a0 : Int) := zD
          have b0 : a0 < (l0.length : Int) := zD
          obtain ⟨a6, a4, a5, a7, a8, c7, b2, b3, b4, b5, b6, b7, b8, b9, c1, c4⟩ := at_T102 d7.out a0 a9 b0
          cases c7
          replace b2 := zx HB b2
          replace b3 := zx HB b3
          replace b4 := zx HB b4
          replace b5 := zx HB b5
          replace b6 := zx HB b6
          replace b7 := zx HB b7
          have c5 := zA b9
          have c6 := zA b8
          clear b9 b8
          have c8 := zA c4
          have c9 := zA c1
          clear c4 c1
          replace a9 := eq_true a9
          replace b0 := eq_true b0
          try go_wp2_with (first | ((with_reducible refine zd 4 ?_); refine ze 4 102 #[.string (⟨#[]⟩ : ByteArray), .int .i64 0, .int .i64 0, .int .i64 0, .slice none 0 0, .slice none 0 0] ?_; intro a1 hg i1 hbox hb; have a3 := zA (hbox); have e4 := zi HB hg; have e5 := zi HB hg; replace HB := zA (below_step (zB) hb); clear hb hbox hg; obtain ⟨k5, k6, k7, k8, k9, l1, l2, l3, l4, l5, l6, l7⟩ := ze6 a3.out))
          generalize hW_ : ((((((i1.setCell ⟨a1, 0, none⟩ (.string ((rd_T102 l0 a0).f0))).setCell ⟨a1, 1, none⟩ (.int .i64 ((rd_T102 l0 a0).f1.f0))).setCell ⟨a1, 2, none⟩ (.int .i64 ((rd_T102 l0 a0).f1.f1))).setCell ⟨a1, 3, none⟩ (.int .i64 ((rd_T102 l0 a0).f1.f2))).setCell ⟨a1, 4, none⟩ (.slice a4 ((rd_T102 l0 a0).f1.f3).length a5)).setCell ⟨a1, 5, none⟩ (.slice a7 ((rd_T102 l0 a0).f2).length a8)) = h4
          replace a3 : Aside0 (h4.heap[a1]? = some (.cells #[.string ((rd_T102 l0 a0).f0), .int .i64 ((rd_T102 l0 a0).f1.f0), .int .i64 ((rd_T102 l0 a0).f1.f1), .int .i64 ((rd_T102 l0 a0).f1.f2), .slice a4 ((rd_T102 l0 a0).f1.f3).length a5, .slice a7 ((rd_T102 l0 a0).f2).length a8] 102 (0, 0))) := ⟨by subst hW_; (with_reducible repeat (first | refine blk_drewN ?_ _ | refine blk_drew ?_ | refine blk_alloc ?_ _)); refine blk_put (cs := #[.string ((rd_T102 l0 a0).f0), .int .i64 ((rd_T102 l0 a0).f1.f0), .int .i64 ((rd_T102 l0 a0).f1.f1), .int .i64 ((rd_T102 l0 a0).f1.f2), .slice a4 ((rd_T102 l0 a0).f1.f3).length a5, .slice none 0 0]) ?_ 5 _ rfl; (with_reducible repeat (first | refine blk_drewN ?_ _ | refine blk_drew ?_ | refine blk_alloc ?_ _)); refine blk_put (cs := #[.string ((rd_T102 l0 a0).f0), .int .i64 ((rd_T102 l0 a0).f1.f0), .int .i64 ((rd_T102 l0 a0).f1.f1), .int .i64 ((rd_T102 l0 a0).f1.f2), .slice none 0 0, .slice none 0 0]) ?_ 4 _ rfl; (with_reducible repeat (first | refine blk_drewN ?_ _ | refine blk_drew ?_ | refine blk_alloc ?_ _)); refine blk_put (cs := #[.string ((rd_T102 l0 a0).f0), .int .i64 ((rd_T102 l0 a0).f1.f0), .int .i64 ((rd_T102 l0 a0).f1.f1), .int .i64 0, .slice none 0 0, .slice none 0 0]) ?_ 3 _ rfl; (with_reducible repeat (first | refine blk_drewN ?_ _ | refine blk_drew ?_ | refine blk_alloc ?_ _)); refine blk_put (cs := #[.string ((rd_T102 l0 a0).f0), .int .i64 ((rd_T102 l0 a0).f1.f0), .int .i64 0, .int .i64 0, .slice none 0 0, .slice none 0 0]) ?_ 2 _ rfl; (with_reducible repeat (first | refine blk_drewN ?_ _ | refine blk_drew ?_ | refine blk_alloc ?_ _)); refine blk_put (cs := #[.string ((rd_T102 l0 a0).f0), .int .i64 0, .int .i64 0, .int .i64 0, .slice none 0 0, .slice none 0 0]) ?_ 1 _ rfl; (with_reducible repeat (first | refine blk_drewN ?_ _ | refine blk_drew ?_ | refine blk_alloc ?_ _)); refine blk_put (cs := #[.string (⟨#[]⟩ : ByteArray), .int .i64 0, .int .i64 0, .int .i64 0, .slice none 0 0, .slice none 0 0]) ?_ 0 _ rfl; (with_reducible repeat (first | refine blk_drewN ?_ _ | refine blk_drew ?_ | refine blk_alloc ?_ _)); exact a3.out⟩
          replace HB := zA (zh2 hW_.symm (zW HB.out))
          clear hW_
          replace a3 := zA (blk_drew a3.out)
          replace HB := zA (below_drew1 HB.out)
          have d8 : 0 ≤ ((a2) : Int) := zD
          have d9 : (a2) < (l0.length : Int) := zD
          obtain ⟨g2, e6, e7, e8, e9, g3, d1, d2, d3, d4, d5, d6, f4, f5, f6, f7⟩ := at_T102 d7.out (a2) d8 d9
          have i2 := d6
          have i3 := d5
          have i4 := d4
          have i5 := d3
          have i6 := d2
          have i7 := d1
          obtain rfl : a6 = g2 := (by injection g3)
          replace d1 := zx HB d1
          replace d2 := zx HB d2
          replace d3 := zx HB d3
          replace d4 := zx HB d4
          replace d5 := zx HB d5
          replace d6 := zx HB d6
          have f8 := zA f5
          have g4 := zA f4
          clear f5 f4
          have f9 := zA f7
          have g5 := zA f6
          clear f7 f6
          replace d8 := eq_true d8
          replace d9 := eq_true d9
          refine start_ (n := 30) (S := fun w' => w'.cell? ⟨a1, 0, none⟩ = some (.string ((rd_T102 l0 a0).f0)) ∧ w'.cell? ⟨a1, 1, none⟩ = some (.int .i64 ((rd_T102 l0 a0).f1.f0)) ∧ w'.cell? ⟨a1, 2, none⟩ = some (.int .i64 ((rd_T102 l0 a0).f1.f1)) ∧ w'.cell? ⟨a1, 3, none⟩ = some (.int .i64 ((rd_T102 l0 a0).f1.f2)) ∧ w'.cell? ⟨a1, 4, none⟩ = some (.slice a4 ((rd_T102 l0 a0).f1.f3).length a5) ∧ w'.cell? ⟨a1, 5, none⟩ = some (.slice a7 ((rd_T102 l0 a0).f2).length a8) ∧ w'.cell? (a6.add (((a2)).toNat * 6)) = some (.string ((rd_T102 l0 (a2)).f0)) ∧ w'.cell? ⟨(a6.add (((a2)).toNat * 6)).block, (a6.add (((a2)).toNat * 6)).off + 1, none⟩ = some (.int .i64 ((rd_T102 l0 (a2)).f1.f0)) ∧ w'.cell? ⟨(a6.add (((a2)).toNat * 6)).block, (a6.add (((a2)).toNat * 6)).off + 2, none⟩ = some (.int .i64 ((rd_T102 l0 (a2)).f1.f1)) ∧ w'.cell? ⟨(a6.add (((a2)).toNat * 6)).block, (a6.add (((a2)).toNat * 6)).off + 3, none⟩ = some (.int .i64 ((rd_T102 l0 (a2)).f1.f2)) ∧ w'.cell? ⟨(a6.add (((a2)).toNat * 6)).block, (a6.add (((a2)).toNat * 6)).off + 4, none⟩ = some (.slice e6 ((rd_T102 l0 (a2)).f1.f3).length e7) ∧ w'.cell? ⟨(a6.add (((a2)).toNat * 6)).block, (a6.add (((a2)).toNat * 6)).off + 5, none⟩ = some (.slice e8 ((rd_T102 l0 (a2)).f2).length e9)) (ds := []) (Array.replicate 30 false) (by kernel_rfl) rfl rfl zO fun hHeld => ?_; refine with_tabW impl_RegOk.tab4 impl_RegOk.bits4 (fun HT_ HW_ => ?_)
          generalize h4.drew = l8 at a3 HB f8 f9 d1 d2 d3 d4 d5 d6 hHeld ⊢
          refine zp 0 12 ?_
          refine zt 1 13 ?_
          refine zo 2 (some 14) fun K hK => ?_
          refine goes_ Tryz.func61 (by kernel_rfl) rfl #[.string ((rd_T102 l0 a0).f0)] (by rfl) rfl rfl zM ?_
          with_reducible refine (impl_NameOk.calls b1 ((rd_T102 l0 a0).f0) true _ A6.out).mono ?_
          rintro e w' ⟨rfl, ⟨nd, rfl⟩⟩
          refine ⟨_, rfl, ?_⟩
          refine hK.out _ _ zO fun hHeld => ?_
          clear hK K
          refine zn ?_
          refine zp 3 15 ?_
          refine zp 4 16 ?_
          refine zp 5 17 ?_
          refine zt 6 18 ?_
          refine zo 7 (some 19) fun K hK => ?_
          refine goes_ Tryz.func71 (by kernel_rfl) rfl #[.agg #[.int .i64 ((rd_T102 l0 a0).f1.f0), .int .i64 ((rd_T102 l0 a0).f1.f1), .int .i64 ((rd_T102 l0 a0).f1.f2), .slice a4 ((rd_T102 l0 a0).f1.f3).length a5]] (by rfl) rfl rfl zM ?_
          with_reducible refine (impl_VerOk.calls b1 ((rd_T102 l0 a0).f1.f0) ((rd_T102 l0 a0).f1.f1) ((rd_T102 l0 a0).f1.f2) _ _ ((rd_T102 l0 a0).f1.f3) true _ ?s1 ?s2 A8.out).mono ?_
          (case s1 => repeat (first | exact (Kd.C_below c5.out (zW HB.out)) | (with_reducible refine Kd.C_alloc ?_ _) | (with_reducible refine Kd.C_drewN ?_ _) | (with_reducible refine Kd.C_drew ?_)))
          (case s2 => exact c6.out)
          rintro e l9 ⟨rfl, hb⟩
          refine ⟨_, rfl, ?_⟩
          replace a3 := zb a3 hb
          replace HB := zh HB hb
          (try clear hb)
          refine hK.out _ _ zO fun hHeld => ?_
          clear hK K
          refine zn ?_
          refine zp 8 20 ?_
          refine zp 9 21 ?_
          refine zp 10 22 ?_
          refine zp 11 23 ?_
          refine zt 12 24 ?_
          refine zo 13 (some 25) fun K hK => ?_
          refine goes_ Tryz.func64 (by kernel_rfl) rfl #[.slice a7 ((rd_T102 l0 a0).f2).length a8] (by rfl) rfl rfl zM ?_
          with_reducible refine (impl_needsOk.calls b1 _ _ ((rd_T102 l0 a0).f2) true _ ?s1 ?s2 ?s3 e2.out).mono ?_
          (case s1 => exact zC (Kd.C_below c8.out HB.out))
          (case s2 => exact c9.out)
          (case s3 => exact GW.below HG.out (zW HB.out))
          rintro e m0 ⟨rfl, hb⟩
          refine ⟨_, rfl, ?_⟩
          replace a3 := zb a3 hb
          replace HB := zh HB hb
          (try clear hb)
          refine hK.out _ _ zO fun hHeld => ?_
          clear hK K
          refine zn ?_
          refine zp 14 26 ?_
          refine zp 15 27 ?_
          refine zp 16 28 ?_
          refine zp 17 29 ?_
          refine zp 18 30 ?_
          refine zp 19 31 ?_
          refine zp 20 32 ?_
          refine zp 21 33 ?_
          refine zp 22 34 ?_
          refine zp 23 35 ?_
          refine zt 24 36 ?_
          refine zt 25 37 ?_
          refine zo 26 (some 38) fun K hK => ?_
          refine goes_ Tryz.func72 (by kernel_rfl) rfl #[.agg #[.string ((rd_T102 l0 (a2)).f0), .int .i64 ((rd_T102 l0 (a2)).f1.f0), .int .i64 ((rd_T102 l0 (a2)).f1.f1), .int .i64 ((rd_T102 l0 (a2)).f1.f2), .slice e6 ((rd_T102 l0 (a2)).f1.f3).length e7, .slice e8 ((rd_T102 l0 (a2)).f2).length e9], .agg #[.string ((rd_T102 l0 a0).f0), .int .i64 ((rd_T102 l0 a0).f1.f0), .int .i64 ((rd_T102 l0 a0).f1.f1), .int .i64 ((rd_T102 l0 a0).f1.f2), .slice a4 ((rd_T102 l0 a0).f1.f3).length a5, .slice a7 ((rd_T102 l0 a0).f2).length a8]] (by rfl) rfl rfl (by (try simp only [List.map_toArray, List.map_cons, List.map_nil]); first | done | (simp only [d0]; rfl) | rfl | (simp only [List.length_drop, List.length_take]; rfl)) ?_
          with_reducible refine (impl_lessEntry.calls b1 ((rd_T102 l0 (a2)).f0) ((rd_T102 l0 (a2)).f1.f0) ((rd_T102 l0 (a2)).f1.f1) ((rd_T102 l0 (a2)).f1.f2) _ _ ((rd_T102 l0 (a2)).f1.f3) _ _ ((rd_T102 l0 (a2)).f2) ((rd_T102 l0 a0).f0) ((rd_T102 l0 a0).f1.f0) ((rd_T102 l0 a0).f1.f1) ((rd_T102 l0 a0).f1.f2) _ _ ((rd_T102 l0 a0).f1.f3) _ _ ((rd_T102 l0 a0).f2) true _ ?s1 ?s2 ?s3 ?s4 ?s5 ?s6 ?s7 ?s8 h3.out).mono ?_
          (case s1 => exact zC (Kd.C_below f8.out HB.out))
          (case s2 => exact g4.out)
          (case s3 => exact zC (Kd.C_below f9.out HB.out))
          (case s4 => exact g5.out)
          (case s5 => exact zC (Kd.C_below c5.out HB.out))
          (case s6 => exact c6.out)
          (case s7 => exact zC (Kd.C_below c8.out HB.out))
          (case s8 => exact c9.out)
          rintro e m1 ⟨rfl, hb⟩
          refine ⟨_, rfl, ?_⟩
          replace a3 := zb a3 hb
          replace HB := zh HB hb
          (try clear hb)
          refine hK.out _ _ zO fun hHeld => ?_
          clear hK K
          refine zn ?_
          refine zp 27 39 ?_
          refine zp 28 40 ?_
          refine zp 29 41 ?_
          refine done_ (done_of HT_.out (by kernel_rfl)) ?_
          try go_wp2
          go_roundg b1
          case measure => have := e1.out; have := g0.out; omega
          case rel => exact ⟨(wrap64 (a0 + 1)), zS, H', ⟨by have := e1.out; have := g0.out; omega⟩, ⟨zW HB.out⟩⟩
         ·obtain rfl := zm H
          have a9 : 0 ≤ (a0 : Int) := zD
          have b0 : a0 < (l0.length : Int) := zD
          obtain ⟨a6, a4, a5, a7, a8, c7, b2, b3, b4, b5, b6, b7, b8, b9, c1, c4⟩ := at_T102 d7.out a0 a9 b0
          cases c7
          replace b2 := zx HB b2
          replace b3 := zx HB b3
          replace b4 := zx HB b4
          replace b5 := zx HB b5
          replace b6 := zx HB b6
          replace b7 := zx HB b7
          have c5 := zA b9
          have c6 := zA b8
          clear b9 b8
          have c8 := zA c4
          have c9 := zA c1
          clear c4 c1
          replace a9 := eq_true a9
          replace b0 := eq_true b0
          try go_wp2_with (first | ((with_reducible refine zd 4 ?_); refine ze 4 102 #[.string (⟨#[]⟩ : ByteArray), .int .i64 0, .int .i64 0, .int .i64 0, .slice none 0 0, .slice none 0 0] ?_; intro a1 hg i8 hbox hb; have a3 := zA (hbox); have e4 := zi HB hg; have e5 := zi HB hg; replace HB := zA (below_step (zB) hb); clear hb hbox hg; obtain ⟨m2, m3, m4, m5, m6, m7, m8, m9, n0, n1, n2, n3⟩ := ze6 a3.out))
          generalize hW_ : ((((((i8.setCell ⟨a1, 0, none⟩ (.string ((rd_T102 l0 a0).f0))).setCell ⟨a1, 1, none⟩ (.int .i64 ((rd_T102 l0 a0).f1.f0))).setCell ⟨a1, 2, none⟩ (.int .i64 ((rd_T102 l0 a0).f1.f1))).setCell ⟨a1, 3, none⟩ (.int .i64 ((rd_T102 l0 a0).f1.f2))).setCell ⟨a1, 4, none⟩ (.slice a4 ((rd_T102 l0 a0).f1.f3).length a5)).setCell ⟨a1, 5, none⟩ (.slice a7 ((rd_T102 l0 a0).f2).length a8)) = h5
          replace a3 : Aside0 (h5.heap[a1]? = some (.cells #[.string ((rd_T102 l0 a0).f0), .int .i64 ((rd_T102 l0 a0).f1.f0), .int .i64 ((rd_T102 l0 a0).f1.f1), .int .i64 ((rd_T102 l0 a0).f1.f2), .slice a4 ((rd_T102 l0 a0).f1.f3).length a5, .slice a7 ((rd_T102 l0 a0).f2).length a8] 102 (0, 0))) := ⟨by subst hW_; (with_reducible repeat (first | refine blk_drewN ?_ _ | refine blk_drew ?_ | refine blk_alloc ?_ _)); refine blk_put (cs := #[.string ((rd_T102 l0 a0).f0), .int .i64 ((rd_T102 l0 a0).f1.f0), .int .i64 ((rd_T102 l0 a0).f1.f1), .int .i64 ((rd_T102 l0 a0).f1.f2), .slice a4 ((rd_T102 l0 a0).f1.f3).length a5, .slice none 0 0]) ?_ 5 _ rfl; (with_reducible repeat (first | refine blk_drewN ?_ _ | refine blk_drew ?_ | refine blk_alloc ?_ _)); refine blk_put (cs := #[.string ((rd_T102 l0 a0).f0), .int .i64 ((rd_T102 l0 a0).f1.f0), .int .i64 ((rd_T102 l0 a0).f1.f1), .int .i64 ((rd_T102 l0 a0).f1.f2), .slice none 0 0, .slice none 0 0]) ?_ 4 _ rfl; (with_reducible repeat (first | refine blk_drewN ?_ _ | refine blk_drew ?_ | refine blk_alloc ?_ _)); refine blk_put (cs := #[.string ((rd_T102 l0 a0).f0), .int .i64 ((rd_T102 l0 a0).f1.f0), .int .i64 ((rd_T102 l0 a0).f1.f1), .int .i64 0, .slice none 0 0, .slice none 0 0]) ?_ 3 _ rfl; (with_reducible repeat (first | refine blk_drewN ?_ _ | refine blk_drew ?_ | refine blk_alloc ?_ _)); refine blk_put (cs := #[.string ((rd_T102 l0 a0).f0), .int .i64 ((rd_T102 l0 a0).f1.f0), .int .i64 0, .int .i64 0, .slice none 0 0, .slice none 0 0]) ?_ 2 _ rfl; (with_reducible repeat (first | refine blk_drewN ?_ _ | refine blk_drew ?_ | refine blk_alloc ?_ _)); refine blk_put (cs := #[.string ((rd_T102 l0 a0).f0), .int .i64 0, .int .i64 0, .int .i64 0, .slice none 0 0, .slice none 0 0]) ?_ 1 _ rfl; (with_reducible repeat (first | refine blk_drewN ?_ _ | refine blk_drew ?_ | refine blk_alloc ?_ _)); refine blk_put (cs := #[.string (⟨#[]⟩ : ByteArray), .int .i64 0, .int .i64 0, .int .i64 0, .slice none 0 0, .slice none 0 0]) ?_ 0 _ rfl; (with_reducible repeat (first | refine blk_drewN ?_ _ | refine blk_drew ?_ | refine blk_alloc ?_ _)); exact a3.out⟩
          replace HB := zA (zh2 hW_.symm (zW HB.out))
          clear hW_
          replace a3 := zA (blk_drew a3.out)
          replace HB := zA (below_drew1 HB.out)
          have d8 : 0 ≤ ((a2) : Int) := zD
          have d9 : (a2) < (l0.length : Int) := zD
          obtain ⟨g2, e6, e7, e8, e9, g3, d1, d2, d3, d4, d5, d6, f4, f5, f6, f7⟩ := at_T102 d7.out (a2) d8 d9
          have i2 := d6
          have i3 := d5
          have i4 := d4
          have i5 := d3
          have i6 := d2
          have i7 := d1
          obtain rfl : a6 = g2 := (by injection g3)
          replace d1 := zx HB d1
          replace d2 := zx HB d2
          replace d3 := zx HB d3
          replace d4 := zx HB d4
          replace d5 := zx HB d5
          replace d6 := zx HB d6
          have f8 := zA f5
          have g4 := zA f4
          clear f5 f4
          have f9 := zA f7
          have g5 := zA f6
          clear f7 f6
          replace d8 := eq_true d8
          replace d9 := eq_true d9
          refine start_ (n := 30) (S := fun w' => w'.cell? ⟨a1, 0, none⟩ = some (.string ((rd_T102 l0 a0).f0)) ∧ w'.cell? ⟨a1, 1, none⟩ = some (.int .i64 ((rd_T102 l0 a0).f1.f0)) ∧ w'.cell? ⟨a1, 2, none⟩ = some (.int .i64 ((rd_T102 l0 a0).f1.f1)) ∧ w'.cell? ⟨a1, 3, none⟩ = some (.int .i64 ((rd_T102 l0 a0).f1.f2)) ∧ w'.cell? ⟨a1, 4, none⟩ = some (.slice a4 ((rd_T102 l0 a0).f1.f3).length a5) ∧ w'.cell? ⟨a1, 5, none⟩ = some (.slice a7 ((rd_T102 l0 a0).f2).length a8) ∧ w'.cell? (a6.add (((a2)).toNat * 6)) = some (.string ((rd_T102 l0 (a2)).f0)) ∧ w'.cell? ⟨(a6.add (((a2)).toNat * 6)).block, (a6.add (((a2)).toNat * 6)).off + 1, none⟩ = some (.int .i64 ((rd_T102 l0 (a2)).f1.f0)) ∧ w'.cell? ⟨(a6.add (((a2)).toNat * 6)).block, (a6.add (((a2)).toNat * 6)).off + 2, none⟩ = some (.int .i64 ((rd_T102 l0 (a2)).f1.f1)) ∧ w'.cell? ⟨(a6.add (((a2)).toNat * 6)).block, (a6.add (((a2)).toNat * 6)).off + 3, none⟩ = some (.int .i64 ((rd_T102 l0 (a2)).f1.f2)) ∧ w'.cell? ⟨(a6.add (((a2)).toNat * 6)).block, (a6.add (((a2)).toNat * 6)).off + 4, none⟩ = some (.slice e6 ((rd_T102 l0 (a2)).f1.f3).length e7) ∧ w'.cell? ⟨(a6.add (((a2)).toNat * 6)).block, (a6.add (((a2)).toNat * 6)).off + 5, none⟩ = some (.slice e8 ((rd_T102 l0 (a2)).f2).length e9)) (ds := []) (Array.replicate 30 false) (by kernel_rfl) rfl rfl zO fun hHeld => ?_; refine with_tabW impl_RegOk.tab4 impl_RegOk.bits4 (fun HT_ HW_ => ?_)
          generalize h5.drew = n4 at a3 HB f8 f9 d1 d2 d3 d4 d5 d6 hHeld ⊢
          refine zp 0 12 ?_
          refine zt 1 13 ?_
          refine zo 2 (some 14) fun K hK => ?_
          refine goes_ Tryz.func61 (by kernel_rfl) rfl #[.string ((rd_T102 l0 a0).f0)] (by rfl) rfl rfl zM ?_
          with_reducible refine (impl_NameOk.calls b1 ((rd_T102 l0 a0).f0) true _ A6.out).mono ?_
          rintro e w' ⟨rfl, ⟨nd, rfl⟩⟩
          refine ⟨_, rfl, ?_⟩
          refine hK.out _ _ zO fun hHeld => ?_
          clear hK K
          refine zn ?_
          refine zp 3 15 ?_
          refine zp 4 16 ?_
          refine zp 5 17 ?_
          refine zt 6 18 ?_
          refine zo 7 (some 19) fun K hK => ?_
          refine goes_ Tryz.func71 (by kernel_rfl) rfl #[.agg #[.int .i64 ((rd_T102 l0 a0).f1.f0), .int .i64 ((rd_T102 l0 a0).f1.f1), .int .i64 ((rd_T102 l0 a0).f1.f2), .slice a4 ((rd_T102 l0 a0).f1.f3).length a5]] (by rfl) rfl rfl zM ?_
          with_reducible refine (impl_VerOk.calls b1 ((rd_T102 l0 a0).f1.f0) ((rd_T102 l0 a0).f1.f1) ((rd_T102 l0 a0).f1.f2) _ _ ((rd_T102 l0 a0).f1.f3) true _ ?s1 ?s2 A8.out).mono ?_
          (case s1 => repeat (first | exact (Kd.C_below c5.out (zW HB.out)) | (with_reducible refine Kd.C_alloc ?_ _) | (with_reducible refine Kd.C_drewN ?_ _) | (with_reducible refine Kd.C_drew ?_)))
          (case s2 => exact c6.out)
          rintro e n5 ⟨rfl, hb⟩
          refine ⟨_, rfl, ?_⟩
          replace a3 := zb a3 hb
          replace HB := zh HB hb
          (try clear hb)
          refine hK.out _ _ zO fun hHeld => ?_
          clear hK K
          refine zn ?_
          refine zp 8 20 ?_
          refine zp 9 21 ?_
          refine zp 10 22 ?_
          refine zp 11 23 ?_
          refine zt 12 24 ?_
          refine zo 13 (some 25) fun K hK => ?_
          refine goes_ Tryz.func64 (by kernel_rfl) rfl #[.slice a7 ((rd_T102 l0 a0).f2).length a8] (by rfl) rfl rfl zM ?_
          with_reducible refine (impl_needsOk.calls b1 _ _ ((rd_T102 l0 a0).f2) true _ ?s1 ?s2 ?s3 e2.out).mono ?_
          (case s1 => exact zC (Kd.C_below c8.out HB.out))
          (case s2 => exact c9.out)
          (case s3 => exact GW.below HG.out (zW HB.out))
          rintro e n6 ⟨rfl, hb⟩
          refine ⟨_, rfl, ?_⟩
          replace a3 := zb a3 hb
          replace HB := zh HB hb
          (try clear hb)
          refine hK.out _ _ zO fun hHeld => ?_
          clear hK K
          refine zn ?_
          refine zp 14 26 ?_
          refine zp 15 27 ?_
          refine zp 16 28 ?_
          refine zp 17 29 ?_
          refine zp 18 30 ?_
          refine zp 19 31 ?_
          refine zp 20 32 ?_
          refine zp 21 33 ?_
          refine zp 22 34 ?_
          refine zp 23 35 ?_
          refine zt 24 36 ?_
          refine zt 25 37 ?_
          refine zo 26 (some 38) fun K hK => ?_
          refine goes_ Tryz.func72 (by kernel_rfl) rfl #[.agg #[.string ((rd_T102 l0 (a2)).f0), .int .i64 ((rd_T102 l0 (a2)).f1.f0), .int .i64 ((rd_T102 l0 (a2)).f1.f1), .int .i64 ((rd_T102 l0 (a2)).f1.f2), .slice e6 ((rd_T102 l0 (a2)).f1.f3).length e7, .slice e8 ((rd_T102 l0 (a2)).f2).length e9], .agg #[.string ((rd_T102 l0 a0).f0), .int .i64 ((rd_T102 l0 a0).f1.f0), .int .i64 ((rd_T102 l0 a0).f1.f1), .int .i64 ((rd_T102 l0 a0).f1.f2), .slice a4 ((rd_T102 l0 a0).f1.f3).length a5, .slice a7 ((rd_T102 l0 a0).f2).length a8]] (by rfl) rfl rfl (by (try simp only [List.map_toArray, List.map_cons, List.map_nil]); first | done | (simp only [d0]; rfl) | rfl | (simp only [List.length_drop, List.length_take]; rfl)) ?_
          with_reducible refine (impl_lessEntry.calls b1 ((rd_T102 l0 (a2)).f0) ((rd_T102 l0 (a2)).f1.f0) ((rd_T102 l0 (a2)).f1.f1) ((rd_T102 l0 (a2)).f1.f2) _ _ ((rd_T102 l0 (a2)).f1.f3) _ _ ((rd_T102 l0 (a2)).f2) ((rd_T102 l0 a0).f0) ((rd_T102 l0 a0).f1.f0) ((rd_T102 l0 a0).f1.f1) ((rd_T102 l0 a0).f1.f2) _ _ ((rd_T102 l0 a0).f1.f3) _ _ ((rd_T102 l0 a0).f2) false _ ?s1 ?s2 ?s3 ?s4 ?s5 ?s6 ?s7 ?s8 h3.out).mono ?_
          (case s1 => exact zC (Kd.C_below f8.out HB.out))
          (case s2 => exact g4.out)
          (case s3 => exact zC (Kd.C_below f9.out HB.out))
          (case s4 => exact g5.out)
          (case s5 => exact zC (Kd.C_below c5.out HB.out))
          (case s6 => exact c6.out)
          (case s7 => exact zC (Kd.C_below c8.out HB.out))
          (case s8 => exact c9.out)
          rintro e n7 ⟨rfl, hb⟩
          refine ⟨_, rfl, ?_⟩
          replace a3 := zb a3 hb
          replace HB := zh HB hb
          (try clear hb)
          refine hK.out _ _ zO fun hHeld => ?_
          clear hK K
          refine zn ?_
          refine zp 27 39 ?_
          refine zp 28 40 ?_
          refine zp 29 41 ?_
          refine done_ (done_of HT_.out (by kernel_rfl)) ?_
          try go_wp2
          go_ret
          exact ⟨by first | rfl | (simp [errW_none, errW_some] <;> rfl) | (simp only [← d0]; first | rfl | (simp [errW_none, errW_some] <;> rfl)) | (simp [*, errW_none, errW_some] <;> rfl), zW HB.out⟩
        ·have i0 : decide (0 < a0) = false := decide_eq_false e3
         clear e3
         have H' := zA H
         clear H
         have a9 : 0 ≤ (a0 : Int) := zD
         have b0 : a0 < (l0.length : Int) := zD
         obtain ⟨a6, a4, a5, a7, a8, c7, b2, b3, b4, b5, b6, b7, b8, b9, c1, c4⟩ := at_T102 d7.out a0 a9 b0
         cases c7
         replace b2 := zx HB b2
         replace b3 := zx HB b3
         replace b4 := zx HB b4
         replace b5 := zx HB b5
         replace b6 := zx HB b6
         replace b7 := zx HB b7
         have c5 := zA b9
         have c6 := zA b8
         clear b9 b8
         have c8 := zA c4
         have c9 := zA c1
         clear c4 c1
         replace a9 := eq_true a9
         replace b0 := eq_true b0
         try go_wp2_with (first | ((with_reducible refine zd 4 ?_); refine ze 4 102 #[.string (⟨#[]⟩ : ByteArray), .int .i64 0, .int .i64 0, .int .i64 0, .slice none 0 0, .slice none 0 0] ?_; intro a1 hg i9 hbox hb; have a3 := zA (hbox); have e4 := zi HB hg; have e5 := zi HB hg; replace HB := zA (below_step (zB) hb); clear hb hbox hg; obtain ⟨n8, n9, o0, o1, o2, o3, o4, o5, o6, o7, o8, o9⟩ := ze6 a3.out))
         generalize hW_ : ((((((i9.setCell ⟨a1, 0, none⟩ (.string ((rd_T102 l0 a0).f0))).setCell ⟨a1, 1, none⟩ (.int .i64 ((rd_T102 l0 a0).f1.f0))).setCell ⟨a1, 2, none⟩ (.int .i64 ((rd_T102 l0 a0).f1.f1))).setCell ⟨a1, 3, none⟩ (.int .i64 ((rd_T102 l0 a0).f1.f2))).setCell ⟨a1, 4, none⟩ (.slice a4 ((rd_T102 l0 a0).f1.f3).length a5)).setCell ⟨a1, 5, none⟩ (.slice a7 ((rd_T102 l0 a0).f2).length a8)) = h6
         replace a3 : Aside0 (h6.heap[a1]? = some (.cells #[.string ((rd_T102 l0 a0).f0), .int .i64 ((rd_T102 l0 a0).f1.f0), .int .i64 ((rd_T102 l0 a0).f1.f1), .int .i64 ((rd_T102 l0 a0).f1.f2), .slice a4 ((rd_T102 l0 a0).f1.f3).length a5, .slice a7 ((rd_T102 l0 a0).f2).length a8] 102 (0, 0))) := ⟨by subst hW_; (with_reducible repeat (first | refine blk_drewN ?_ _ | refine blk_drew ?_ | refine blk_alloc ?_ _)); refine blk_put (cs := #[.string ((rd_T102 l0 a0).f0), .int .i64 ((rd_T102 l0 a0).f1.f0), .int .i64 ((rd_T102 l0 a0).f1.f1), .int .i64 ((rd_T102 l0 a0).f1.f2), .slice a4 ((rd_T102 l0 a0).f1.f3).length a5, .slice none 0 0]) ?_ 5 _ rfl; (with_reducible repeat (first | refine blk_drewN ?_ _ | refine blk_drew ?_ | refine blk_alloc ?_ _)); refine blk_put (cs := #[.string ((rd_T102 l0 a0).f0), .int .i64 ((rd_T102 l0 a0).f1.f0), .int .i64 ((rd_T102 l0 a0).f1.f1), .int .i64 ((rd_T102 l0 a0).f1.f2), .slice none 0 0, .slice none 0 0]) ?_ 4 _ rfl; (with_reducible repeat (first | refine blk_drewN ?_ _ | refine blk_drew ?_ | refine blk_alloc ?_ _)); refine blk_put (cs := #[.string ((rd_T102 l0 a0).f0), .int .i64 ((rd_T102 l0 a0).f1.f0), .int .i64 ((rd_T102 l0 a0).f1.f1), .int .i64 0, .slice none 0 0, .slice none 0 0]) ?_ 3 _ rfl; (with_reducible repeat (first | refine blk_drewN ?_ _ | refine blk_drew ?_ | refine blk_alloc ?_ _)); refine blk_put (cs := #[.string ((rd_T102 l0 a0).f0), .int .i64 ((rd_T102 l0 a0).f1.f0), .int .i64 0, .int .i64 0, .slice none 0 0, .slice none 0 0]) ?_ 2 _ rfl; (with_reducible repeat (first | refine blk_drewN ?_ _ | refine blk_drew ?_ | refine blk_alloc ?_ _)); refine blk_put (cs := #[.string ((rd_T102 l0 a0).f0), .int .i64 0, .int .i64 0, .int .i64 0, .slice none 0 0, .slice none 0 0]) ?_ 1 _ rfl; (with_reducible repeat (first | refine blk_drewN ?_ _ | refine blk_drew ?_ | refine blk_alloc ?_ _)); refine blk_put (cs := #[.string (⟨#[]⟩ : ByteArray), .int .i64 0, .int .i64 0, .int .i64 0, .slice none 0 0, .slice none 0 0]) ?_ 0 _ rfl; (with_reducible repeat (first | refine blk_drewN ?_ _ | refine blk_drew ?_ | refine blk_alloc ?_ _)); exact a3.out⟩
         replace HB := zA (zh2 hW_.symm (zW HB.out))
         clear hW_
         replace a3 := zA (blk_drew a3.out)
         replace HB := zA (below_drew1 HB.out)
         refine start_ (n := 30) (S := fun w' => w'.cell? ⟨a1, 0, none⟩ = some (.string ((rd_T102 l0 a0).f0)) ∧ w'.cell? ⟨a1, 1, none⟩ = some (.int .i64 ((rd_T102 l0 a0).f1.f0)) ∧ w'.cell? ⟨a1, 2, none⟩ = some (.int .i64 ((rd_T102 l0 a0).f1.f1)) ∧ w'.cell? ⟨a1, 3, none⟩ = some (.int .i64 ((rd_T102 l0 a0).f1.f2)) ∧ w'.cell? ⟨a1, 4, none⟩ = some (.slice a4 ((rd_T102 l0 a0).f1.f3).length a5) ∧ w'.cell? ⟨a1, 5, none⟩ = some (.slice a7 ((rd_T102 l0 a0).f2).length a8)) (ds := []) (Array.replicate 30 false) (by kernel_rfl) rfl rfl zO fun hHeld => ?_; refine with_tabW impl_RegOk.tab4 impl_RegOk.bits4 (fun HT_ HW_ => ?_)
         generalize h6.drew = p0 at a3 HB hHeld ⊢
         refine zp 0 12 ?_
         refine zt 1 13 ?_
         refine zo 2 (some 14) fun K hK => ?_
         refine goes_ Tryz.func61 (by kernel_rfl) rfl #[.string ((rd_T102 l0 a0).f0)] (by rfl) rfl rfl zM ?_
         with_reducible refine (impl_NameOk.calls b1 ((rd_T102 l0 a0).f0) true _ A6.out).mono ?_
         rintro e w' ⟨rfl, ⟨nd, rfl⟩⟩
         refine ⟨_, rfl, ?_⟩
         refine hK.out _ _ zO fun hHeld => ?_
         clear hK K
         refine zn ?_
         refine zp 3 15 ?_
         refine zp 4 16 ?_
         refine zp 5 17 ?_
         refine zt 6 18 ?_
         refine zo 7 (some 19) fun K hK => ?_
         refine goes_ Tryz.func71 (by kernel_rfl) rfl #[.agg #[.int .i64 ((rd_T102 l0 a0).f1.f0), .int .i64 ((rd_T102 l0 a0).f1.f1), .int .i64 ((rd_T102 l0 a0).f1.f2), .slice a4 ((rd_T102 l0 a0).f1.f3).length a5]] (by rfl) rfl rfl zM ?_
         with_reducible refine (impl_VerOk.calls b1 ((rd_T102 l0 a0).f1.f0) ((rd_T102 l0 a0).f1.f1) ((rd_T102 l0 a0).f1.f2) _ _ ((rd_T102 l0 a0).f1.f3) true _ ?s1 ?s2 A8.out).mono ?_
         (case s1 => repeat (first | exact (Kd.C_below c5.out (zW HB.out)) | (with_reducible refine Kd.C_alloc ?_ _) | (with_reducible refine Kd.C_drewN ?_ _) | (with_reducible refine Kd.C_drew ?_)))
         (case s2 => exact c6.out)
         rintro e p1 ⟨rfl, hb⟩
         refine ⟨_, rfl, ?_⟩
         replace a3 := zb a3 hb
         replace HB := zh HB hb
         (try clear hb)
         refine hK.out _ _ zO fun hHeld => ?_
         clear hK K
         refine zn ?_
         refine zp 8 20 ?_
         refine zp 9 21 ?_
         refine zp 10 22 ?_
         refine zp 11 23 ?_
         refine zt 12 24 ?_
         refine zo 13 (some 25) fun K hK => ?_
         refine goes_ Tryz.func64 (by kernel_rfl) rfl #[.slice a7 ((rd_T102 l0 a0).f2).length a8] (by rfl) rfl rfl zM ?_
         with_reducible refine (impl_needsOk.calls b1 _ _ ((rd_T102 l0 a0).f2) true _ ?s1 ?s2 ?s3 e2.out).mono ?_
         (case s1 => exact zC (Kd.C_below c8.out HB.out))
         (case s2 => exact c9.out)
         (case s3 => exact GW.below HG.out (zW HB.out))
         rintro e p3 ⟨rfl, hb⟩
         refine ⟨_, rfl, ?_⟩
         replace a3 := zb a3 hb
         replace HB := zh HB hb
         (try clear hb)
         refine hK.out _ _ zO fun hHeld => ?_
         clear hK K
         refine zn ?_
         refine zp 14 26 ?_
         refine zp 15 27 ?_
         refine zp 16 28 ?_
         refine zp 17 29 ?_
         refine zp 18 30 ?_
         refine zp 19 31 ?_
         refine zu 20 32 ?_
         refine zu 21 33 ?_
         refine zu 22 34 ?_
         refine zu 23 35 ?_
         refine zu 24 36 ?_
         refine zu 25 37 ?_
         refine zu 26 38 ?_
         refine zu 27 39 ?_
         refine zp 28 40 ?_
         refine zp 29 41 ?_
         refine done_ (done_of HT_.out (by kernel_rfl)) ?_
         try go_wp2
         go_roundg b1
         case measure => have := e1.out; have := g0.out; omega
         case rel => exact ⟨(wrap64 (a0 + 1)), zS, H', ⟨by have := e1.out; have := g0.out; omega⟩, ⟨zW HB.out⟩⟩
       ·obtain rfl := zm H
        have a9 : 0 ≤ (a0 : Int) := zD
        have b0 : a0 < (l0.length : Int) := zD
        obtain ⟨a6, a4, a5, a7, a8, c7, b2, b3, b4, b5, b6, b7, b8, b9, c1, c4⟩ := at_T102 d7.out a0 a9 b0
        cases c7
        replace b2 := zx HB b2
        replace b3 := zx HB b3
        replace b4 := zx HB b4
        replace b5 := zx HB b5
        replace b6 := zx HB b6
        replace b7 := zx HB b7
        have c5 := zA b9
        have c6 := zA b8
        clear b9 b8
        have c8 := zA c4
        have c9 := zA c1
        clear c4 c1
        replace a9 := eq_true a9
        replace b0 := eq_true b0
        try go_wp2_with (first | ((with_reducible refine zd 4 ?_); refine ze 4 102 #[.string (⟨#[]⟩ : ByteArray), .int .i64 0, .int .i64 0, .int .i64 0, .slice none 0 0, .slice none 0 0] ?_; intro a1 hg j0 hbox hb; have a3 := zA (hbox); have e4 := zi HB hg; have e5 := zi HB hg; replace HB := zA (below_step (zB) hb); clear hb hbox hg; obtain ⟨p4, p5, p6, p7, p8, p9, q0, q1, q2, q3, q4, q5⟩ := ze6 a3.out))
        generalize hW_ : ((((((j0.setCell ⟨a1, 0, none⟩ (.string ((rd_T102 l0 a0).f0))).setCell ⟨a1, 1, none⟩ (.int .i64 ((rd_T102 l0 a0).f1.f0))).setCell ⟨a1, 2, none⟩ (.int .i64 ((rd_T102 l0 a0).f1.f1))).setCell ⟨a1, 3, none⟩ (.int .i64 ((rd_T102 l0 a0).f1.f2))).setCell ⟨a1, 4, none⟩ (.slice a4 ((rd_T102 l0 a0).f1.f3).length a5)).setCell ⟨a1, 5, none⟩ (.slice a7 ((rd_T102 l0 a0).f2).length a8)) = h7
        replace a3 : Aside0 (h7.heap[a1]? = some (.cells #[.string ((rd_T102 l0 a0).f0), .int .i64 ((rd_T102 l0 a0).f1.f0), .int .i64 ((rd_T102 l0 a0).f1.f1), .int .i64 ((rd_T102 l0 a0).f1.f2), .slice a4 ((rd_T102 l0 a0).f1.f3).length a5, .slice a7 ((rd_T102 l0 a0).f2).length a8] 102 (0, 0))) := ⟨by subst hW_; (with_reducible repeat (first | refine blk_drewN ?_ _ | refine blk_drew ?_ | refine blk_alloc ?_ _)); refine blk_put (cs := #[.string ((rd_T102 l0 a0).f0), .int .i64 ((rd_T102 l0 a0).f1.f0), .int .i64 ((rd_T102 l0 a0).f1.f1), .int .i64 ((rd_T102 l0 a0).f1.f2), .slice a4 ((rd_T102 l0 a0).f1.f3).length a5, .slice none 0 0]) ?_ 5 _ rfl; (with_reducible repeat (first | refine blk_drewN ?_ _ | refine blk_drew ?_ | refine blk_alloc ?_ _)); refine blk_put (cs := #[.string ((rd_T102 l0 a0).f0), .int .i64 ((rd_T102 l0 a0).f1.f0), .int .i64 ((rd_T102 l0 a0).f1.f1), .int .i64 ((rd_T102 l0 a0).f1.f2), .slice none 0 0, .slice none 0 0]) ?_ 4 _ rfl; (with_reducible repeat (first | refine blk_drewN ?_ _ | refine blk_drew ?_ | refine blk_alloc ?_ _)); refine blk_put (cs := #[.string ((rd_T102 l0 a0).f0), .int .i64 ((rd_T102 l0 a0).f1.f0), .int .i64 ((rd_T102 l0 a0).f1.f1), .int .i64 0, .slice none 0 0, .slice none 0 0]) ?_ 3 _ rfl; (with_reducible repeat (first | refine blk_drewN ?_ _ | refine blk_drew ?_ | refine blk_alloc ?_ _)); refine blk_put (cs := #[.string ((rd_T102 l0 a0).f0), .int .i64 ((rd_T102 l0 a0).f1.f0), .int .i64 0, .int .i64 0, .slice none 0 0, .slice none 0 0]) ?_ 2 _ rfl; (with_reducible repeat (first | refine blk_drewN ?_ _ | refine blk_drew ?_ | refine blk_alloc ?_ _)); refine blk_put (cs := #[.string ((rd_T102 l0 a0).f0), .int .i64 0, .int .i64 0, .int .i64 0, .slice none 0 0, .slice none 0 0]) ?_ 1 _ rfl; (with_reducible repeat (first | refine blk_drewN ?_ _ | refine blk_drew ?_ | refine blk_alloc ?_ _)); refine blk_put (cs := #[.string (⟨#[]⟩ : ByteArray), .int .i64 0, .int .i64 0, .int .i64 0, .slice none 0 0, .slice none 0 0]) ?_ 0 _ rfl; (with_reducible repeat (first | refine blk_drewN ?_ _ | refine blk_drew ?_ | refine blk_alloc ?_ _)); exact a3.out⟩
        replace HB := zA (zh2 hW_.symm (zW HB.out))
        clear hW_
        replace a3 := zA (blk_drew a3.out)
        replace HB := zA (below_drew1 HB.out)
        refine start_ (n := 30) (S := fun w' => w'.cell? ⟨a1, 0, none⟩ = some (.string ((rd_T102 l0 a0).f0)) ∧ w'.cell? ⟨a1, 1, none⟩ = some (.int .i64 ((rd_T102 l0 a0).f1.f0)) ∧ w'.cell? ⟨a1, 2, none⟩ = some (.int .i64 ((rd_T102 l0 a0).f1.f1)) ∧ w'.cell? ⟨a1, 3, none⟩ = some (.int .i64 ((rd_T102 l0 a0).f1.f2)) ∧ w'.cell? ⟨a1, 4, none⟩ = some (.slice a4 ((rd_T102 l0 a0).f1.f3).length a5) ∧ w'.cell? ⟨a1, 5, none⟩ = some (.slice a7 ((rd_T102 l0 a0).f2).length a8)) (ds := []) (Array.replicate 30 false) (by kernel_rfl) rfl rfl zO fun hHeld => ?_; refine with_tabW impl_RegOk.tab4 impl_RegOk.bits4 (fun HT_ HW_ => ?_)
        generalize h7.drew = q6 at a3 HB hHeld ⊢
        refine zp 0 12 ?_
        refine zt 1 13 ?_
        refine zo 2 (some 14) fun K hK => ?_
        refine goes_ Tryz.func61 (by kernel_rfl) rfl #[.string ((rd_T102 l0 a0).f0)] (by rfl) rfl rfl zM ?_
        with_reducible refine (impl_NameOk.calls b1 ((rd_T102 l0 a0).f0) true _ A6.out).mono ?_
        rintro e w' ⟨rfl, ⟨nd, rfl⟩⟩
        refine ⟨_, rfl, ?_⟩
        refine hK.out _ _ zO fun hHeld => ?_
        clear hK K
        refine zn ?_
        refine zp 3 15 ?_
        refine zp 4 16 ?_
        refine zp 5 17 ?_
        refine zt 6 18 ?_
        refine zo 7 (some 19) fun K hK => ?_
        refine goes_ Tryz.func71 (by kernel_rfl) rfl #[.agg #[.int .i64 ((rd_T102 l0 a0).f1.f0), .int .i64 ((rd_T102 l0 a0).f1.f1), .int .i64 ((rd_T102 l0 a0).f1.f2), .slice a4 ((rd_T102 l0 a0).f1.f3).length a5]] (by rfl) rfl rfl zM ?_
        with_reducible refine (impl_VerOk.calls b1 ((rd_T102 l0 a0).f1.f0) ((rd_T102 l0 a0).f1.f1) ((rd_T102 l0 a0).f1.f2) _ _ ((rd_T102 l0 a0).f1.f3) true _ ?s1 ?s2 A8.out).mono ?_
        (case s1 => repeat (first | exact (Kd.C_below c5.out (zW HB.out)) | (with_reducible refine Kd.C_alloc ?_ _) | (with_reducible refine Kd.C_drewN ?_ _) | (with_reducible refine Kd.C_drew ?_)))
        (case s2 => exact c6.out)
        rintro e q7 ⟨rfl, hb⟩
        refine ⟨_, rfl, ?_⟩
        replace a3 := zb a3 hb
        replace HB := zh HB hb
        (try clear hb)
        refine hK.out _ _ zO fun hHeld => ?_
        clear hK K
        refine zn ?_
        refine zp 8 20 ?_
        refine zp 9 21 ?_
        refine zp 10 22 ?_
        refine zp 11 23 ?_
        refine zt 12 24 ?_
        refine zo 13 (some 25) fun K hK => ?_
        refine goes_ Tryz.func64 (by kernel_rfl) rfl #[.slice a7 ((rd_T102 l0 a0).f2).length a8] (by rfl) rfl rfl zM ?_
        with_reducible refine (impl_needsOk.calls b1 _ _ ((rd_T102 l0 a0).f2) false _ ?s1 ?s2 ?s3 e2.out).mono ?_
        (case s1 => exact zC (Kd.C_below c8.out HB.out))
        (case s2 => exact c9.out)
        (case s3 => exact GW.below HG.out (zW HB.out))
        rintro e q8 ⟨rfl, hb⟩
        refine ⟨_, rfl, ?_⟩
        replace a3 := zb a3 hb
        replace HB := zh HB hb
        (try clear hb)
        refine hK.out _ _ zO fun hHeld => ?_
        clear hK K
        refine zn ?_
        refine zp 14 26 ?_
        refine zp 15 27 ?_
        refine zp 16 28 ?_
        refine zu 17 29 ?_
        refine zu 18 30 ?_
        refine zu 19 31 ?_
        refine zu 20 32 ?_
        refine zu 21 33 ?_
        refine zu 22 34 ?_
        refine zu 23 35 ?_
        refine zu 24 36 ?_
        refine zu 25 37 ?_
        refine zu 26 38 ?_
        refine zu 27 39 ?_
        refine zu 28 40 ?_
        refine zp 29 41 ?_
        refine done_ (done_of HT_.out (by kernel_rfl)) ?_
        try go_wp2
        go_ret
        exact ⟨zE, zW HB.out⟩
      ·obtain rfl := zm H
       have a9 : 0 ≤ (a0 : Int) := zD
       have b0 : a0 < (l0.length : Int) := zD
       obtain ⟨a6, a4, a5, a7, a8, c7, b2, b3, b4, b5, b6, b7, b8, b9, c1, c4⟩ := at_T102 d7.out a0 a9 b0
       cases c7
       replace b2 := zx HB b2
       replace b3 := zx HB b3
       replace b4 := zx HB b4
       replace b5 := zx HB b5
       replace b6 := zx HB b6
       replace b7 := zx HB b7
       have c5 := zA b9
       have c6 := zA b8
       clear b9 b8
       have c8 := zA c4
       have c9 := zA c1
       clear c4 c1
       replace a9 := eq_true a9
       replace b0 := eq_true b0
       try go_wp2_with (first | ((with_reducible refine zd 4 ?_); refine ze 4 102 #[.string (⟨#[]⟩ : ByteArray), .int .i64 0, .int .i64 0, .int .i64 0, .slice none 0 0, .slice none 0 0] ?_; intro a1 hg j2 hbox hb; have a3 := zA (hbox); have e4 := zi HB hg; have e5 := zi HB hg; replace HB := zA (below_step (zB) hb); clear hb hbox hg; obtain ⟨q9, r0, r1, r2, r3, r4, r5, r6, r7, r8, r9, t0⟩ := ze6 a3.out))
       generalize hW_ : ((((((j2.setCell ⟨a1, 0, none⟩ (.string ((rd_T102 l0 a0).f0))).setCell ⟨a1, 1, none⟩ (.int .i64 ((rd_T102 l0 a0).f1.f0))).setCell ⟨a1, 2, none⟩ (.int .i64 ((rd_T102 l0 a0).f1.f1))).setCell ⟨a1, 3, none⟩ (.int .i64 ((rd_T102 l0 a0).f1.f2))).setCell ⟨a1, 4, none⟩ (.slice a4 ((rd_T102 l0 a0).f1.f3).length a5)).setCell ⟨a1, 5, none⟩ (.slice a7 ((rd_T102 l0 a0).f2).length a8)) = h8
       replace a3 : Aside0 (h8.heap[a1]? = some (.cells #[.string ((rd_T102 l0 a0).f0), .int .i64 ((rd_T102 l0 a0).f1.f0), .int .i64 ((rd_T102 l0 a0).f1.f1), .int .i64 ((rd_T102 l0 a0).f1.f2), .slice a4 ((rd_T102 l0 a0).f1.f3).length a5, .slice a7 ((rd_T102 l0 a0).f2).length a8] 102 (0, 0))) := ⟨by subst hW_; (with_reducible repeat (first | refine blk_drewN ?_ _ | refine blk_drew ?_ | refine blk_alloc ?_ _)); refine blk_put (cs := #[.string ((rd_T102 l0 a0).f0), .int .i64 ((rd_T102 l0 a0).f1.f0), .int .i64 ((rd_T102 l0 a0).f1.f1), .int .i64 ((rd_T102 l0 a0).f1.f2), .slice a4 ((rd_T102 l0 a0).f1.f3).length a5, .slice none 0 0]) ?_ 5 _ rfl; (with_reducible repeat (first | refine blk_drewN ?_ _ | refine blk_drew ?_ | refine blk_alloc ?_ _)); refine blk_put (cs := #[.string ((rd_T102 l0 a0).f0), .int .i64 ((rd_T102 l0 a0).f1.f0), .int .i64 ((rd_T102 l0 a0).f1.f1), .int .i64 ((rd_T102 l0 a0).f1.f2), .slice none 0 0, .slice none 0 0]) ?_ 4 _ rfl; (with_reducible repeat (first | refine blk_drewN ?_ _ | refine blk_drew ?_ | refine blk_alloc ?_ _)); refine blk_put (cs := #[.string ((rd_T102 l0 a0).f0), .int .i64 ((rd_T102 l0 a0).f1.f0), .int .i64 ((rd_T102 l0 a0).f1.f1), .int .i64 0, .slice none 0 0, .slice none 0 0]) ?_ 3 _ rfl; (with_reducible repeat (first | refine blk_drewN ?_ _ | refine blk_drew ?_ | refine blk_alloc ?_ _)); refine blk_put (cs := #[.string ((rd_T102 l0 a0).f0), .int .i64 ((rd_T102 l0 a0).f1.f0), .int .i64 0, .int .i64 0, .slice none 0 0, .slice none 0 0]) ?_ 2 _ rfl; (with_reducible repeat (first | refine blk_drewN ?_ _ | refine blk_drew ?_ | refine blk_alloc ?_ _)); refine blk_put (cs := #[.string ((rd_T102 l0 a0).f0), .int .i64 0, .int .i64 0, .int .i64 0, .slice none 0 0, .slice none 0 0]) ?_ 1 _ rfl; (with_reducible repeat (first | refine blk_drewN ?_ _ | refine blk_drew ?_ | refine blk_alloc ?_ _)); refine blk_put (cs := #[.string (⟨#[]⟩ : ByteArray), .int .i64 0, .int .i64 0, .int .i64 0, .slice none 0 0, .slice none 0 0]) ?_ 0 _ rfl; (with_reducible repeat (first | refine blk_drewN ?_ _ | refine blk_drew ?_ | refine blk_alloc ?_ _)); exact a3.out⟩
       replace HB := zA (zh2 hW_.symm (zW HB.out))
       clear hW_
       replace a3 := zA (blk_drew a3.out)
       replace HB := zA (below_drew1 HB.out)
       refine start_ (n := 30) (S := fun w' => w'.cell? ⟨a1, 0, none⟩ = some (.string ((rd_T102 l0 a0).f0)) ∧ w'.cell? ⟨a1, 1, none⟩ = some (.int .i64 ((rd_T102 l0 a0).f1.f0)) ∧ w'.cell? ⟨a1, 2, none⟩ = some (.int .i64 ((rd_T102 l0 a0).f1.f1)) ∧ w'.cell? ⟨a1, 3, none⟩ = some (.int .i64 ((rd_T102 l0 a0).f1.f2)) ∧ w'.cell? ⟨a1, 4, none⟩ = some (.slice a4 ((rd_T102 l0 a0).f1.f3).length a5) ∧ w'.cell? ⟨a1, 5, none⟩ = some (.slice a7 ((rd_T102 l0 a0).f2).length a8)) (ds := []) (Array.replicate 30 false) (by kernel_rfl) rfl rfl zO fun hHeld => ?_; refine with_tabW impl_RegOk.tab4 impl_RegOk.bits4 (fun HT_ HW_ => ?_)
       generalize h8.drew = t1 at a3 HB hHeld ⊢
       refine zp 0 12 ?_
       refine zt 1 13 ?_
       refine zo 2 (some 14) fun K hK => ?_
       refine goes_ Tryz.func61 (by kernel_rfl) rfl #[.string ((rd_T102 l0 a0).f0)] (by rfl) rfl rfl zM ?_
       with_reducible refine (impl_NameOk.calls b1 ((rd_T102 l0 a0).f0) true _ A6.out).mono ?_
       rintro e w' ⟨rfl, ⟨nd, rfl⟩⟩
       refine ⟨_, rfl, ?_⟩
       refine hK.out _ _ zO fun hHeld => ?_
       clear hK K
       refine zn ?_
       refine zp 3 15 ?_
       refine zp 4 16 ?_
       refine zp 5 17 ?_
       refine zt 6 18 ?_
       refine zo 7 (some 19) fun K hK => ?_
       refine goes_ Tryz.func71 (by kernel_rfl) rfl #[.agg #[.int .i64 ((rd_T102 l0 a0).f1.f0), .int .i64 ((rd_T102 l0 a0).f1.f1), .int .i64 ((rd_T102 l0 a0).f1.f2), .slice a4 ((rd_T102 l0 a0).f1.f3).length a5]] (by rfl) rfl rfl zM ?_
       with_reducible refine (impl_VerOk.calls b1 ((rd_T102 l0 a0).f1.f0) ((rd_T102 l0 a0).f1.f1) ((rd_T102 l0 a0).f1.f2) _ _ ((rd_T102 l0 a0).f1.f3) false _ ?s1 ?s2 A8.out).mono ?_
       (case s1 => repeat (first | exact (Kd.C_below c5.out (zW HB.out)) | (with_reducible refine Kd.C_alloc ?_ _) | (with_reducible refine Kd.C_drewN ?_ _) | (with_reducible refine Kd.C_drew ?_)))
       (case s2 => exact c6.out)
       rintro e t2 ⟨rfl, hb⟩
       refine ⟨_, rfl, ?_⟩
       replace a3 := zb a3 hb
       replace HB := zh HB hb
       (try clear hb)
       refine hK.out _ _ zO fun hHeld => ?_
       clear hK K
       refine zn ?_
       refine zp 8 20 ?_
       refine zp 9 21 ?_
       refine zp 10 22 ?_
       refine zu 11 23 ?_
       refine zu 12 24 ?_
       refine zu 13 25 ?_
       refine zu 14 26 ?_
       refine zp 15 27 ?_
       refine zp 16 28 ?_
       refine zu 17 29 ?_
       refine zu 18 30 ?_
       refine zu 19 31 ?_
       refine zu 20 32 ?_
       refine zu 21 33 ?_
       refine zu 22 34 ?_
       refine zu 23 35 ?_
       refine zu 24 36 ?_
       refine zu 25 37 ?_
       refine zu 26 38 ?_
       refine zu 27 39 ?_
       refine zu 28 40 ?_
       refine zp 29 41 ?_
       refine done_ (done_of HT_.out (by kernel_rfl)) ?_
       try go_wp2
       go_ret
       exact ⟨zE, zW HB.out⟩
     ·obtain rfl := zm H
      have a9 : 0 ≤ (a0 : Int) := zD
      have b0 : a0 < (l0.length : Int) := zD
      obtain ⟨a6, a4, a5, a7, a8, c7, b2, b3, b4, b5, b6, b7, b8, b9, c1, c4⟩ := at_T102 d7.out a0 a9 b0
      cases c7
      replace b2 := zx HB b2
      replace b3 := zx HB b3
      replace b4 := zx HB b4
      replace b5 := zx HB b5
      replace b6 := zx HB b6
      replace b7 := zx HB b7
      have c5 := zA b9
      have c6 := zA b8
      clear b9 b8
      have c8 := zA c4
      have c9 := zA c1
      clear c4 c1
      replace a9 := eq_true a9
      replace b0 := eq_true b0
      try go_wp2_with (first | ((with_reducible refine zd 4 ?_); refine ze 4 102 #[.string (⟨#[]⟩ : ByteArray), .int .i64 0, .int .i64 0, .int .i64 0, .slice none 0 0, .slice none 0 0] ?_; intro a1 hg j3 hbox hb; have a3 := zA (hbox); have e4 := zi HB hg; have e5 := zi HB hg; replace HB := zA (below_step (zB) hb); clear hb hbox hg; obtain ⟨t3, t4, t5, t6, t7, t8, t9, v0, v1, v2, v3, v4⟩ := ze6 a3.out))
      generalize hW_ : ((((((j3.setCell ⟨a1, 0, none⟩ (.string ((rd_T102 l0 a0).f0))).setCell ⟨a1, 1, none⟩ (.int .i64 ((rd_T102 l0 a0).f1.f0))).setCell ⟨a1, 2, none⟩ (.int .i64 ((rd_T102 l0 a0).f1.f1))).setCell ⟨a1, 3, none⟩ (.int .i64 ((rd_T102 l0 a0).f1.f2))).setCell ⟨a1, 4, none⟩ (.slice a4 ((rd_T102 l0 a0).f1.f3).length a5)).setCell ⟨a1, 5, none⟩ (.slice a7 ((rd_T102 l0 a0).f2).length a8)) = h9
      replace a3 : Aside0 (h9.heap[a1]? = some (.cells #[.string ((rd_T102 l0 a0).f0), .int .i64 ((rd_T102 l0 a0).f1.f0), .int .i64 ((rd_T102 l0 a0).f1.f1), .int .i64 ((rd_T102 l0 a0).f1.f2), .slice a4 ((rd_T102 l0 a0).f1.f3).length a5, .slice a7 ((rd_T102 l0 a0).f2).length a8] 102 (0, 0))) := ⟨by subst hW_; (with_reducible repeat (first | refine blk_drewN ?_ _ | refine blk_drew ?_ | refine blk_alloc ?_ _)); refine blk_put (cs := #[.string ((rd_T102 l0 a0).f0), .int .i64 ((rd_T102 l0 a0).f1.f0), .int .i64 ((rd_T102 l0 a0).f1.f1), .int .i64 ((rd_T102 l0 a0).f1.f2), .slice a4 ((rd_T102 l0 a0).f1.f3).length a5, .slice none 0 0]) ?_ 5 _ rfl; (with_reducible repeat (first | refine blk_drewN ?_ _ | refine blk_drew ?_ | refine blk_alloc ?_ _)); refine blk_put (cs := #[.string ((rd_T102 l0 a0).f0), .int .i64 ((rd_T102 l0 a0).f1.f0), .int .i64 ((rd_T102 l0 a0).f1.f1), .int .i64 ((rd_T102 l0 a0).f1.f2), .slice none 0 0, .slice none 0 0]) ?_ 4 _ rfl; (with_reducible repeat (first | refine blk_drewN ?_ _ | refine blk_drew ?_ | refine blk_alloc ?_ _)); refine blk_put (cs := #[.string ((rd_T102 l0 a0).f0), .int .i64 ((rd_T102 l0 a0).f1.f0), .int .i64 ((rd_T102 l0 a0).f1.f1), .int .i64 0, .slice none 0 0, .slice none 0 0]) ?_ 3 _ rfl; (with_reducible repeat (first | refine blk_drewN ?_ _ | refine blk_drew ?_ | refine blk_alloc ?_ _)); refine blk_put (cs := #[.string ((rd_T102 l0 a0).f0), .int .i64 ((rd_T102 l0 a0).f1.f0), .int .i64 0, .int .i64 0, .slice none 0 0, .slice none 0 0]) ?_ 2 _ rfl; (with_reducible repeat (first | refine blk_drewN ?_ _ | refine blk_drew ?_ | refine blk_alloc ?_ _)); refine blk_put (cs := #[.string ((rd_T102 l0 a0).f0), .int .i64 0, .int .i64 0, .int .i64 0, .slice none 0 0, .slice none 0 0]) ?_ 1 _ rfl; (with_reducible repeat (first | refine blk_drewN ?_ _ | refine blk_drew ?_ | refine blk_alloc ?_ _)); refine blk_put (cs := #[.string (⟨#[]⟩ : ByteArray), .int .i64 0, .int .i64 0, .int .i64 0, .slice none 0 0, .slice none 0 0]) ?_ 0 _ rfl; (with_reducible repeat (first | refine blk_drewN ?_ _ | refine blk_drew ?_ | refine blk_alloc ?_ _)); exact a3.out⟩
      replace HB := zA (zh2 hW_.symm (zW HB.out))
      clear hW_
      replace a3 := zA (blk_drew a3.out)
      replace HB := zA (below_drew1 HB.out)
      refine start_ (n := 30) (S := fun w' => w'.cell? ⟨a1, 0, none⟩ = some (.string ((rd_T102 l0 a0).f0)) ∧ w'.cell? ⟨a1, 1, none⟩ = some (.int .i64 ((rd_T102 l0 a0).f1.f0)) ∧ w'.cell? ⟨a1, 2, none⟩ = some (.int .i64 ((rd_T102 l0 a0).f1.f1)) ∧ w'.cell? ⟨a1, 3, none⟩ = some (.int .i64 ((rd_T102 l0 a0).f1.f2)) ∧ w'.cell? ⟨a1, 4, none⟩ = some (.slice a4 ((rd_T102 l0 a0).f1.f3).length a5) ∧ w'.cell? ⟨a1, 5, none⟩ = some (.slice a7 ((rd_T102 l0 a0).f2).length a8)) (ds := []) (Array.replicate 30 false) (by kernel_rfl) rfl rfl zO fun hHeld => ?_; refine with_tabW impl_RegOk.tab4 impl_RegOk.bits4 (fun HT_ HW_ => ?_)
      generalize h9.drew = v5 at a3 HB hHeld ⊢
      refine zp 0 12 ?_
      refine zt 1 13 ?_
      refine zo 2 (some 14) fun K hK => ?_
      refine goes_ Tryz.func61 (by kernel_rfl) rfl #[.string ((rd_T102 l0 a0).f0)] (by rfl) rfl rfl zM ?_
      with_reducible refine (impl_NameOk.calls b1 ((rd_T102 l0 a0).f0) false _ A6.out).mono ?_
      rintro e w' ⟨rfl, ⟨nd, rfl⟩⟩
      refine ⟨_, rfl, ?_⟩
      refine hK.out _ _ zO fun hHeld => ?_
      clear hK K
      refine zn ?_
      refine zp 3 15 ?_
      refine zp 4 16 ?_
      refine zu 5 17 ?_
      refine zu 6 18 ?_
      refine zu 7 19 ?_
      refine zu 8 20 ?_
      refine zp 9 21 ?_
      refine zp 10 22 ?_
      refine zu 11 23 ?_
      refine zu 12 24 ?_
      refine zu 13 25 ?_
      refine zu 14 26 ?_
      refine zp 15 27 ?_
      refine zp 16 28 ?_
      refine zu 17 29 ?_
      refine zu 18 30 ?_
      refine zu 19 31 ?_
      refine zu 20 32 ?_
      refine zu 21 33 ?_
      refine zu 22 34 ?_
      refine zu 23 35 ?_
      refine zu 24 36 ?_
      refine zu 25 37 ?_
      refine zu 26 38 ?_
      refine zu 27 39 ?_
      refine zu 28 40 ?_
      refine zp 29 41 ?_
      refine done_ (done_of HT_.out (by kernel_rfl)) ?_
      try go_wp2
      go_ret
      exact ⟨zE, zW HB.out⟩
/-! ### laws_eqStringS: function 50 -/
mutual
def laws_eqStringS.j0 : Nat → List ByteArray → List ByteArray → Option (Bool)
 | 0, _, _ => none
 | k + 1, x0, x1 => laws_eqStringS.l0 k x0 x1 0
def laws_eqStringS.l0 : Nat → List ByteArray → List ByteArray → Int → Option (Bool)
 | 0, _, _, _ => none
 | k + 1, x0, x1, x5 => if x5 < (x0.length : Int) then (if 0 ≤ x5 then (if x5 < (x1.length : Int) then (if (rdOf ByteArray.empty x0 x5).toList = (rdOf ByteArray.empty x1 x5).toList then (laws_eqStringS.l0 k x0 x1 (wrap64 (x5 + 1))) else (some false)) else (none)) else (none)) else (some true)
end
def laws_eqStringS.f (k : Nat) (l0 l1 : List ByteArray) : Option (Bool) := if (l0.length : Int) = (l1.length : Int) then (laws_eqStringS.j0 k l0 l1) else (some false)
theorem laws_eqStringS.calls (k : Nat) (A0 : Option Addr) (c0 : Nat) (l0 : List ByteArray) (A1 : Option Addr) (c1 : Nat) (l1 : List ByteArray) (r : Bool) (w : World) (b1 : Kd.C Kd.string w A0 l0.length l0) (b2 : l0.length ≤ c0) (b3 : Kd.C Kd.string w A1 l1.length l1) (b4 : l1.length ≤ c1) (h : laws_eqStringS.f k l0 l1 = some r) :
  Calls Tryz.prog 50 #[.slice A0 l0.length c0, .slice A1 l1.length c1] w fun e w' => e = .returned (.bool r) ∧ Drawn0 w w' := by
 have b5 := zA b1
 have d2 := zA b2
 clear b1 b2
 have b6 := zA b3
 have d3 := zA b4
 clear b3 b4
 unfold laws_eqStringS.f at h
 have H := h
 clear h
 have a6 := zA H
 clear H
 go_enter Tryz.func50, Tryz.ntmps50
 go_upto_if 10 with (fail)
 repeat (go_quiet (fail); go_upto_if 10 with (fail))
 go_cut [] (fun wc => ∃ (kq : Nat), Aside0 (laws_eqStringS.j0 kq l0 l1 = some r) ∧ Aside0 (kq ≤ k) ∧ Drawn0 w wc)
 case first =>
  have H := a6.out
  clear a6
  replace H := zI1 H
  rcases H with ⟨c4, H⟩ | ⟨c4, H⟩
  ·have a1 := beq_iff_eq.mpr c4
   have a7 := bne_eq_false_iff_eq.mpr c4
   have a8 : (l0.length == l1.length) = true := by first | simpa using c4 | (simp at c4 ⊢; omega)
   clear c4
   (first | rw [a1] | (simp only [i64_w, i32_w]; rw [a1]) | skip)
   have H' := zA H
   clear H
   go_wp2
   repeat (go_quiet (fail); try go_wp2)
   go_meet
   case rel => exact ⟨_, (by first | exact H' | (subst_vars; exact H')), ⟨by first | omega | exact Nat.le_refl _⟩, by repeat (first | exact Drawn0.refl _ | apply Drawn0.step)⟩
  ·have a1 := beq_eq_false_iff_ne.mpr c4
   have a7 := bne_iff_ne.mpr c4
   have a8 : (l0.length == l1.length) = false := by first | simpa using c4 | (simp at c4 ⊢; omega)
   (first | rw [a1] | (simp only [i64_w, i32_w]; rw [a1]) | skip)
   obtain rfl := zm H
   go_wp2
   repeat (go_quiet (fail); try go_wp2)
   go_ret
   exact ⟨by first | rfl | (simp; done) | (simp [*]; done) | (simp; rw [Bool.eq_iff_iff]; simp; done), by repeat (first | exact Drawn0.refl _ | apply Drawn0.step)⟩
 case rest =>
  clear a6
  try clear c1
  try clear p2
  try clear c4
  try clear a1
  try clear a7
  try clear a8
  obtain ⟨kq, HA, b7, ⟨d4, rfl⟩⟩ := hcut
  cases kq with
  | zero => exact absurd HA.out (by simp [laws_eqStringS.j0])
  | succ b8 =>
   have H := HA.out
   clear HA
   simp only [laws_eqStringS.j0] at H
   have H' := zA H
   clear H
   go_wp2
   repeat (go_quiet (fail); try go_wp2)
   go_loopg [5] b8 (fun kq v5 w' => ∃ (a0 : Int), v5 = .int .i64 a0 ∧ Aside0 (laws_eqStringS.l0 kq l0 l1 a0 = some r) ∧ Aside0 (kq ≤ b8) ∧ Drawn0 w w')
   case atStart => exact ⟨(0), zS, H', ⟨Nat.le_refl _⟩, by repeat (first | exact Drawn0.refl _ | apply Drawn0.step)⟩
   case round =>
    clear H'
    try clear c1
    try clear c2
    try clear p2
    try clear c4
    try clear a1
    try clear a7
    try clear a8
    try clear p2
    obtain ⟨a0, rfl, HA, b9, ⟨m2, rfl⟩⟩ := hrel
    cases gk with
    | zero => exact absurd HA.out (by simp [laws_eqStringS.l0])
    | succ k2 =>
     have H := HA.out
     clear HA
     simp only [laws_eqStringS.l0] at H
     replace H := zI0 H
     rcases H with ⟨c3, H⟩ | ⟨c3, H⟩
     ·replace H := zD0 H
      obtain ⟨d5, H⟩ := H
      replace H := zD0 H
      obtain ⟨d6, H⟩ := H
      replace H := zI1 H
      rcases H with ⟨c8, H⟩ | ⟨c8, H⟩
      ·have c5 := beq_iff_eq.mpr c8
       have c6 := bne_eq_false_iff_eq.mpr c8
       clear c8
       have H' := zA H
       clear H
       have a2 : 0 ≤ (a0 : Int) := zD
       have a3 : a0 < (l0.length : Int) := zD
       obtain ⟨c7, a9, c9⟩ := Kd.at_string b5.out a0 a2 a3
       cases a9
       replace a2 := eq_true a2
       replace a3 := eq_true a3
       have a4 : 0 ≤ (a0 : Int) := zD
       have a5 : a0 < (l1.length : Int) := zD
       obtain ⟨d0, b0, d1⟩ := Kd.at_string b6.out a0 a4 a5
       cases b0
       replace a4 := eq_true a4
       replace a5 := eq_true a5
       go_wp2
       repeat (go_quiet (fail); try go_wp2)
       go_roundg k2
       case measure => have := b7.out; have := b9.out; omega
       case rel => exact ⟨(wrap64 (a0 + 1)), zS, H', ⟨by have := b7.out; have := b9.out; omega⟩, by repeat (first | exact Drawn0.refl _ | apply Drawn0.step)⟩
      ·have c5 := beq_eq_false_iff_ne.mpr c8
       have c6 := bne_iff_ne.mpr c8
       obtain rfl := zm H
       have a2 : 0 ≤ (a0 : Int) := zD
       have a3 : a0 < (l0.length : Int) := zD
       obtain ⟨c7, a9, c9⟩ := Kd.at_string b5.out a0 a2 a3
       cases a9
       replace a2 := eq_true a2
       replace a3 := eq_true a3
       have a4 : 0 ≤ (a0 : Int) := zD
       have a5 : a0 < (l1.length : Int) := zD
       obtain ⟨d0, b0, d1⟩ := Kd.at_string b6.out a0 a4 a5
       cases b0
       replace a4 := eq_true a4
       replace a5 := eq_true a5
       go_wp2
       repeat (go_quiet (fail); try go_wp2)
       go_ret
       exact ⟨by first | rfl | (simp; done) | (simp [*]; done) | (simp; rw [Bool.eq_iff_iff]; simp; done), by repeat (first | exact Drawn0.refl _ | apply Drawn0.step)⟩
     ·obtain rfl := zm H
      go_wp2
      repeat (go_quiet (fail); try go_wp2)
      go_ret
      exact ⟨by first | rfl | (simp; done) | (simp [*]; done) | (simp; rw [Bool.eq_iff_iff]; simp; done), by repeat (first | exact Drawn0.refl _ | apply Drawn0.step)⟩
/-! ### laws_eqVer: function 15 -/
mutual
def laws_eqVer.j0 : Nat → Int → Int → Int → List ByteArray → Int → Int → Int → List ByteArray → Option (Bool)
 | 0, _, _, _, _, _, _, _, _ => none
 | k + 1, a6, a0, a1, a2, a7, a3, a4, a5 => if a0 = a3 then (laws_eqVer.j1 k a6 a0 a1 a2 a7 a3 a4 a5) else (some false)
def laws_eqVer.j1 : Nat → Int → Int → Int → List ByteArray → Int → Int → Int → List ByteArray → Option (Bool)
 | 0, _, _, _, _, _, _, _, _ => none
 | k + 1, a6, a0, a1, a2, a7, a3, a4, a5 => if a1 = a4 then ((laws_eqStringS.f k a2 a5).bind fun a8 => (if a8 = true then (some true) else (some false))) else (some false)
end
def laws_eqVer.f (k : Nat) (a0 a2 a3 : Int) (a4 : List ByteArray) (a1 a5 a6 : Int) (a7 : List ByteArray) : Option (Bool) := if a0 = a1 then (laws_eqVer.j0 k a0 a2 a3 a4 a1 a5 a6 a7) else (some false)
theorem laws_eqVer.calls (k : Nat) (a4 a5 a6 : Int) (a7 : Option Addr) (a8 : Nat) (a0 : List ByteArray) (a9 b0 b1 : Int) (b2 : Option Addr) (b3 : Nat) (a1 : List ByteArray) (r : Bool) (w : World) (c4 : Kd.C Kd.string w a7 a0.length a0) (c5 : a0.length ≤ a8) (c7 : Kd.C Kd.string w b2 a1.length a1) (c8 : a1.length ≤ b3) (h : laws_eqVer.f k a4 a5 a6 a0 a9 b0 b1 a1 = some r) :
  Calls Tryz.prog 15 #[.agg #[.int .i64 a4, .int .i64 a5, .int .i64 a6, .slice a7 a0.length a8], .agg #[.int .i64 a9, .int .i64 b0, .int .i64 b1, .slice b2 a1.length b3]] w fun e w' => e = .returned (.bool r) ∧ Below w.heap.size w w' := by
 have h6 := Tryz.underlying32
 have d0 := zA c4
 have d1 := zA c5
 clear c4 c5
 have d2 := zA c7
 have d3 := zA c8
 clear c7 c8
 have HB := zA (Below.refl w.heap.size w)
 unfold laws_eqVer.f at h
 have H := h
 clear h
 have c0 := zA H
 clear H
 go_enter Tryz.func15, Tryz.ntmps15
 go_upto_if 9 with (first | ((with_reducible refine zd 2 ?_); refine ze 2 32 #[.int .i64 a4, .int .i64 a5, .int .i64 a6, .slice a7 a0.length a8] ?_; intro d4 hg w4 hbox hb; have a2 := zA (hbox); have h7 := zi HB hg; have h8 := zi HB hg; replace HB := zA (below_step (zB) hb); clear hb hbox hg) | ((with_reducible refine zd 3 ?_); refine ze 3 32 #[.int .i64 a9, .int .i64 b0, .int .i64 b1, .slice b2 a1.length b3] ?_; intro d5 hg w5 hbox hb; have a3 := zA (hbox); have h9 := zi HB hg; have i0 := zi HB hg; replace HB := zh HB hb; have b8 := zA (zL hg (zK a2.out)); have b9 := zA (zJ hg (zK a2.out)); replace a2 := zb a2 hb; clear hb hbox hg; have i1 := b8.out; have i2 := b9.out; obtain ⟨d6, d7, d8, d9, e0, e1, e2, e3⟩ := ze4 a2.out; obtain ⟨e4, e5, e6, e7, e8, e9, f0, f1⟩ := ze4 a3.out))
 (try simp only [Act.put, zT])
 go_cut [] (fun wc => ∃ (kq : Nat), Aside0 (laws_eqVer.j0 kq a4 a5 a6 a0 a9 b0 b1 a1 = some r) ∧ Aside0 (kq ≤ k) ∧ Aside0 (wc.heap[d4]? = some (.cells #[.int .i64 a4, .int .i64 a5, .int .i64 a6, (.slice a7 a0.length a8)] 32 (0, 0))) ∧ Aside0 (wc.heap[d5]? = some (.cells #[.int .i64 a9, .int .i64 b0, .int .i64 b1, (.slice b2 a1.length b3)] 32 (0, 0))) ∧ Aside0 (Below w.heap.size w wc))
 case first =>
  have H := c0.out
  clear c0
  replace H := zI1 H
  rcases H with ⟨c9, H⟩ | ⟨c9, H⟩
  ·have b4 := beq_iff_eq.mpr c9
   have c2 := bne_eq_false_iff_eq.mpr c9
   clear c9
   (first | rw [b4] | (simp only [i64_w, i32_w]; rw [b4]) | skip)
   have H' := zA H
   clear H
   go_wp2
   go_meet
   case rel => exact ⟨_, (by first | exact H' | (subst_vars; exact H')), ⟨by first | omega | exact Nat.le_refl _⟩, ⟨zK a2.out⟩, ⟨zK a3.out⟩, ⟨zW HB.out⟩⟩
  ·have b4 := beq_eq_false_iff_ne.mpr c9
   have c2 := bne_iff_ne.mpr c9
   (first | rw [b4] | (simp only [i64_w, i32_w]; rw [b4]) | skip)
   obtain rfl := zm H
   go_wp2
   go_ret
   exact ⟨zE, zW HB.out⟩
 case rest =>
  clear c0
  try clear c1
  try clear p2
  try clear c6
  try clear c9
  try clear b4
  try clear c2
  try clear d6 d7 d8 d9 e0 e1 e2 e3
  try clear e4 e5 e6 e7 e8 e9 f0 f1
  obtain ⟨kq, HA, f6, a2, a3, HB⟩ := hcut
  cases kq with
  | zero => exact absurd HA.out (by simp [laws_eqVer.j0])
  | succ f7 =>
   have H := HA.out
   clear HA
   simp only [laws_eqVer.j0] at H
   have c3 := zA H
   clear H
   have i3 := b8.out
   have i4 := b9.out
   obtain ⟨f8, f9, g0, g1, g2, g3, g4, g5⟩ := ze4 a2.out
   obtain ⟨g6, g7, g8, g9, h0, h1, h2, h3⟩ := ze4 a3.out
   go_upto_if 14 with (fail)
   go_cut [] (fun wc => ∃ (kq : Nat), Aside0 (laws_eqVer.j1 kq a4 a5 a6 a0 a9 b0 b1 a1 = some r) ∧ Aside0 (kq ≤ f7) ∧ Aside0 (wc.heap[d4]? = some (.cells #[.int .i64 a4, .int .i64 a5, .int .i64 a6, (.slice a7 a0.length a8)] 32 (0, 0))) ∧ Aside0 (wc.heap[d5]? = some (.cells #[.int .i64 a9, .int .i64 b0, .int .i64 b1, (.slice b2 a1.length b3)] 32 (0, 0))) ∧ Aside0 (Below w.heap.size w wc))
   case first =>
    have H := c3.out
    clear c3
    replace H := zI1 H
    rcases H with ⟨b5, H⟩ | ⟨b5, H⟩
    ·have b6 := beq_iff_eq.mpr b5
     have f2 := bne_eq_false_iff_eq.mpr b5
     clear b5
     (first | rw [b6] | (simp only [i64_w, i32_w]; rw [b6]) | skip)
     have H' := zA H
     clear H
     go_wp2
     go_meet
     case rel => exact ⟨_, (by first | exact H' | (subst_vars; exact H')), ⟨by have := f6.out; first | omega | exact Nat.le_refl _⟩, ⟨zK a2.out⟩, ⟨zK a3.out⟩, ⟨zW HB.out⟩⟩
    ·have b6 := beq_eq_false_iff_ne.mpr b5
     have f2 := bne_iff_ne.mpr b5
     (first | rw [b6] | (simp only [i64_w, i32_w]; rw [b6]) | skip)
     obtain rfl := zm H
     go_wp2
     go_ret
     exact ⟨zE, zW HB.out⟩
   case rest =>
    clear c3
    try clear c1
    try clear p2
    try clear c6
    try clear c9
    try clear b4
    try clear c2
    try clear c11
    try clear b5
    try clear b6
    try clear f2
    try clear f8 f9 g0 g1 g2 g3 g4 g5
    try clear g6 g7 g8 g9 h0 h1 h2 h3
    try clear d6 d7 d8 d9 e0 e1 e2 e3
    try clear e4 e5 e6 e7 e8 e9 f0 f1
    try clear p2
    obtain ⟨kq, HA, i5, a2, a3, HB⟩ := hcut
    cases kq with
    | zero => exact absurd HA.out (by simp [laws_eqVer.j1])
    | succ f3 =>
     have H := HA.out
     clear HA
     simp only [laws_eqVer.j1] at H
     replace H := zI1 H
     rcases H with ⟨b7, H⟩ | ⟨b7, H⟩
     ·have h4 := beq_iff_eq.mpr b7
      have h5 := bne_eq_false_iff_eq.mpr b7
      clear b7
      replace H := Option.bind_eq_some_iff.mp H
      obtain ⟨i6, f4, H⟩ := H
      try dsimp only at H
      have f5 := zA f4
      clear f4
      replace H := zB0 H
      rcases H with ⟨rfl, H⟩ | ⟨rfl, H⟩
      ·obtain rfl := zm H
       have i7 := b8.out
       have i8 := b9.out
       obtain ⟨i9, j2, j3, j4, j5, j6, j7, j8⟩ := ze4 a2.out
       obtain ⟨j9, k0, k1, k2, k3, k4, k5, k6⟩ := ze4 a3.out
       go_wp2_with (first | ((with_reducible refine zq 50 ?_); refine zg (some 24) Tryz.func50 #[.slice a7 a0.length a8, .slice b2 a1.length b3] ?_; (with_reducible refine (laws_eqStringS.calls f3 _ _ a0 _ _ a1 true _ ?s1 ?s2 ?s3 ?s4 f5.out).mono ?_); (case s1 => exact zC (Kd.C_below d0.out HB.out)); (case s2 => exact d1.out); (case s3 => exact zC (Kd.C_below d2.out HB.out)); (case s4 => exact d3.out); rintro e w' ⟨rfl, ⟨nd, rfl⟩⟩; refine ⟨_, rfl, ?_⟩))
       go_ret
       exact ⟨zE, zW HB.out⟩
      ·obtain rfl := zm H
       have k7 := b8.out
       have k8 := b9.out
       obtain ⟨k9, l0, l1, l2, l3, l4, l5, l6⟩ := ze4 a2.out
       obtain ⟨l7, l8, l9, m0, m1, m2, m3, m4⟩ := ze4 a3.out
       go_wp2_with (first | ((with_reducible refine zq 50 ?_); refine zg (some 24) Tryz.func50 #[.slice a7 a0.length a8, .slice b2 a1.length b3] ?_; (with_reducible refine (laws_eqStringS.calls f3 _ _ a0 _ _ a1 false _ ?s1 ?s2 ?s3 ?s4 f5.out).mono ?_); (case s1 => exact zC (Kd.C_below d0.out HB.out)); (case s2 => exact d1.out); (case s3 => exact zC (Kd.C_below d2.out HB.out)); (case s4 => exact d3.out); rintro e w' ⟨rfl, ⟨nd, rfl⟩⟩; refine ⟨_, rfl, ?_⟩))
       go_ret
       exact ⟨zE, zW HB.out⟩
     ·have h4 := beq_eq_false_iff_ne.mpr b7
      have h5 := bne_iff_ne.mpr b7
      obtain rfl := zm H
      have m5 := b8.out
      have m6 := b9.out
      obtain ⟨m7, m8, m9, n0, n1, n2, n3, n4⟩ := ze4 a2.out
      obtain ⟨n5, n6, n7, n8, n9, o0, o1, o2⟩ := ze4 a3.out
      go_wp2
      go_ret
      exact ⟨zE, zW HB.out⟩
/-! ### laws_eqNeed: function 117 -/
def laws_eqNeed.f (a0 a1 a2 a3 : ByteArray) : Option (Bool) := if a0.toList = a2.toList then (if a1.toList = a3.toList then (some true) else (some false)) else (some false)
theorem laws_eqNeed.calls (a3 a4 a5 a6 : ByteArray) (r : Bool) (w : World) (h : laws_eqNeed.f a3 a4 a5 a6 = some r) :
  Calls Tryz.prog 117 #[.agg #[.string a3, .string a4], .agg #[.string a5, .string a6]] w fun e w' => e = .returned (.bool r) ∧ Below w.heap.size w w' := by
 have b2 := Tryz.underlying30
 have HB := zA (Below.refl w.heap.size w)
 unfold laws_eqNeed.f at h
 have H := h
 clear h
 go_enter Tryz.func117, Tryz.ntmps117
 go_upto_if 9 with (first | ((with_reducible refine zd 2 ?_); refine ze 2 30 #[.string a3, .string a4] ?_; intro b3 hg w5 hbox hb; have a0 := zA (hbox); have b4 := zi HB hg; have b5 := zi HB hg; replace HB := zA (below_step (zB) hb); clear hb hbox hg) | ((with_reducible refine zd 3 ?_); refine ze 3 30 #[.string a5, .string a6] ?_; intro b6 hg w6 hbox hb; have a9 := zA (hbox); have b7 := zi HB hg; have b8 := zi HB hg; replace HB := zh HB hb; have b0 := zA (zL hg (zK a0.out)); have b1 := zA (zJ hg (zK a0.out)); replace a0 := zb a0 hb; clear hb hbox hg; have b9 := b0.out; have c0 := b1.out; obtain ⟨c1, c2, c5, c6⟩ := ze2 a0.out; obtain ⟨c7, c8, c9, d0⟩ := ze2 a9.out))
 (try simp only [Act.put, zT])
 replace H := zI1 H
 rcases H with ⟨c3, H⟩ | ⟨c3, H⟩
 ·have a1 := beq_iff_eq.mpr c3
  have a2 := bne_eq_false_iff_eq.mpr c3
  clear c3
  replace H := zI1 H
  rcases H with ⟨c4, H⟩ | ⟨c4, H⟩
  ·have a7 := beq_iff_eq.mpr c4
   have a8 := bne_eq_false_iff_eq.mpr c4
   clear c4
   obtain rfl := zm H
   (try simp only [a1, a2, a7, a8])
   go_wp2
   go_ret
   exact ⟨zE, zW HB.out⟩
  ·have a7 := beq_eq_false_iff_ne.mpr c4
   have a8 := bne_iff_ne.mpr c4
   obtain rfl := zm H
   (try simp only [a1, a2, a7, a8])
   go_wp2
   go_ret
   exact ⟨zE, zW HB.out⟩
 ·have a1 := beq_eq_false_iff_ne.mpr c3
  have a2 := bne_iff_ne.mpr c3
  obtain rfl := zm H
  (try simp only [a1, a2])
  go_wp2
  go_ret
  exact ⟨zE, zW HB.out⟩
/-! ### laws_eqNeedS: function 65 -/
mutual
def laws_eqNeedS.j0 : Nat → List (S30) → List (S30) → Option (Bool)
 | 0, _, _ => none
 | k + 1, x0, x1 => laws_eqNeedS.l0 k x0 x1 0
def laws_eqNeedS.l0 : Nat → List (S30) → List (S30) → Int → Option (Bool)
 | 0, _, _, _ => none
 | k + 1, x0, x1, x5 => if x5 < (x0.length : Int) then (if 0 ≤ x5 then (if x5 < (x1.length : Int) then ((laws_eqNeed.f ((rd_T30 x0 x5).f0) ((rd_T30 x0 x5).f1) ((rd_T30 x1 x5).f0) ((rd_T30 x1 x5).f1)).bind fun a0 => (if a0 = true then (laws_eqNeedS.l0 k x0 x1 (wrap64 (x5 + 1))) else (some false))) else (none)) else (none)) else (some true)
end
def laws_eqNeedS.f (k : Nat) (l0 : List (S30)) (l1 : List (S30)) : Option (Bool) := if (l0.length : Int) = (l1.length : Int) then (laws_eqNeedS.j0 k l0 l1) else (some false)
def laws_eqNeedS.T6 : Bool × List (List Nat × List Nat) := (true, [([], []), ([], []), ([0, 1], [0, 1]), ([2], [2]), ([], []), ([], []), ([4, 5], [4, 5]), ([6], [6]), ([3, 7], [3, 7]), ([8], [8])])
def laws_eqNeedS.B6 : List Nat := [0, 0, 3, 7, 0, 0, 48, 112, 255, 511]
theorem laws_eqNeedS.tab6 : rtab .any (opsOf Tryz.f65 6) = laws_eqNeedS.T6 := by kernel_rfl
theorem laws_eqNeedS.bits6 : waitsOk laws_eqNeedS.T6.2 laws_eqNeedS.B6 = true := by kernel_rfl
theorem laws_eqNeedS.calls (k : Nat) (A0 : Option Addr) (c0 : Nat) (l0 : List (S30)) (A1 : Option Addr) (c1 : Nat) (l1 : List (S30)) (r : Bool) (w : World) (b7 : Kd.C k30 w A0 l0.length l0) (b8 : l0.length ≤ c0) (b9 : Kd.C k30 w A1 l1.length l1) (c2 : l1.length ≤ c1) (h : laws_eqNeedS.f k l0 l1 = some r) :
  Calls Tryz.prog 65 #[.slice A0 l0.length c0, .slice A1 l1.length c1] w fun e w' => e = .returned (.bool r) ∧ Below w.heap.size w w' := by
 have d5 := Tryz.underlying30
 have c3 := zA b7
 have d6 := zA b8
 clear b7 b8
 have c5 := zA b9
 have d7 := zA c2
 clear b9 c2
 have HB := zA (Below.refl w.heap.size w)
 unfold laws_eqNeedS.f at h
 have H := h
 clear h
 have b2 := zA H
 clear H
 go_enter Tryz.func65, Tryz.ntmps65
 go_upto_if 10 with (fail)
 go_cut [] (fun wc => ∃ (kq : Nat), Aside0 (laws_eqNeedS.j0 kq l0 l1 = some r) ∧ Aside0 (kq ≤ k) ∧ Aside0 (Below w.heap.size w wc))
 case first =>
  have H := b2.out
  clear b2
  replace H := zI1 H
  rcases H with ⟨c4, H⟩ | ⟨c4, H⟩
  ·have a5 := beq_iff_eq.mpr c4
   have b3 := bne_eq_false_iff_eq.mpr c4
   have b4 : (l0.length == l1.length) = true := by first | simpa using c4 | (simp at c4 ⊢; omega)
   clear c4
   (first | rw [a5] | (simp only [i64_w, i32_w]; rw [a5]) | skip)
   have H' := zA H
   clear H
   go_wp2
   go_meet
   case rel => exact ⟨_, (by first | exact H' | (subst_vars; exact H')), ⟨by first | omega | exact Nat.le_refl _⟩, ⟨zB⟩⟩
  ·have a5 := beq_eq_false_iff_ne.mpr c4
   have b3 := bne_iff_ne.mpr c4
   have b4 : (l0.length == l1.length) = false := by first | simpa using c4 | (simp at c4 ⊢; omega)
   (first | rw [a5] | (simp only [i64_w, i32_w]; rw [a5]) | skip)
   obtain rfl := zm H
   go_wp2
   go_ret
   exact ⟨zE, zB⟩
 case rest =>
  clear b2
  try clear c1
  try clear p2
  try clear c4
  try clear a5
  try clear b3
  try clear b4
  obtain ⟨kq, HA, c6, HB⟩ := hcut
  cases kq with
  | zero => exact absurd HA.out (by simp [laws_eqNeedS.j0])
  | succ c7 =>
   have H := HA.out
   clear HA
   simp only [laws_eqNeedS.j0] at H
   have H' := zA H
   clear H
   go_wp2
   go_loopg [5] c7 (fun kq v5 w' => ∃ (a0 : Int), v5 = .int .i64 a0 ∧ Aside0 (laws_eqNeedS.l0 kq l0 l1 a0 = some r) ∧ Aside0 (kq ≤ c7) ∧ Aside0 (Below w.heap.size w w'))
   case atStart => exact ⟨(0), zS, H', ⟨Nat.le_refl _⟩, ⟨zB⟩⟩
   case round =>
    clear H'
    try clear c1
    try clear p2
    try clear c4
    try clear a5
    try clear b3
    try clear b4
    try clear p2
    obtain ⟨a0, rfl, HA, c8, HB⟩ := hrel
    cases gk with
    | zero => exact absurd HA.out (by simp [laws_eqNeedS.l0])
    | succ k2 =>
     have H := HA.out
     clear HA
     simp only [laws_eqNeedS.l0] at H
     replace H := zI0 H
     rcases H with ⟨d0, H⟩ | ⟨d0, H⟩
     ·replace H := zD0 H
      obtain ⟨d8, H⟩ := H
      replace H := zD0 H
      obtain ⟨d9, H⟩ := H
      replace H := Option.bind_eq_some_iff.mp H
      obtain ⟨e0, c9, H⟩ := H
      try dsimp only at H
      have A8 := zA c9
      clear c9
      replace H := zB0 H
      rcases H with ⟨rfl, H⟩ | ⟨rfl, H⟩
      ·have H' := zA H
       clear H
       try go_wp2
       replace HB := zA (below_drew1 HB.out)
       have a6 : 0 ≤ (a0 : Int) := zD
       have a7 : a0 < (l0.length : Int) := zD
       obtain ⟨a8, b5, a1, a2⟩ := at_T30 c3.out a0 a6 a7
       have d1 := a2
       have d2 := a1
       cases b5
       replace a1 := zx HB a1
       replace a2 := zx HB a2
       replace a6 := eq_true a6
       replace a7 := eq_true a7
       have a9 : 0 ≤ (a0 : Int) := zD
       have b0 : a0 < (l1.length : Int) := zD
       obtain ⟨b1, b6, a3, a4⟩ := at_T30 c5.out a0 a9 b0
       have d3 := a4
       have d4 := a3
       cases b6
       replace a3 := zx HB a3
       replace a4 := zx HB a4
       replace a9 := eq_true a9
       replace b0 := eq_true b0
       refine start_ (n := 10) (S := fun w' => w'.cell? (a8.add ((a0).toNat * 2)) = some (.string ((rd_T30 l0 a0).f0)) ∧ w'.cell? ⟨(a8.add ((a0).toNat * 2)).block, (a8.add ((a0).toNat * 2)).off + 1, none⟩ = some (.string ((rd_T30 l0 a0).f1)) ∧ w'.cell? (b1.add ((a0).toNat * 2)) = some (.string ((rd_T30 l1 a0).f0)) ∧ w'.cell? ⟨(b1.add ((a0).toNat * 2)).block, (b1.add ((a0).toNat * 2)).off + 1, none⟩ = some (.string ((rd_T30 l1 a0).f1))) (ds := []) (Array.replicate 10 false) (by kernel_rfl) rfl rfl zO fun hHeld => ?_; refine with_tabW laws_eqNeedS.tab6 laws_eqNeedS.bits6 (fun HT_ HW_ => ?_)
       generalize wr.drew = e1 at HB a1 a2 a3 a4 hHeld ⊢
       refine zp 0 17 ?_
       refine zp 1 18 ?_
       refine zp 2 19 ?_
       refine zp 4 21 ?_
       refine zp 5 22 ?_
       refine zp 6 23 ?_
       refine zt 3 20 ?_
       refine zt 7 24 ?_
       refine zo 8 (some 25) fun K hK => ?_
       refine goes_ Tryz.func117 (by kernel_rfl) rfl #[.agg #[.string ((rd_T30 l0 a0).f0), .string ((rd_T30 l0 a0).f1)], .agg #[.string ((rd_T30 l1 a0).f0), .string ((rd_T30 l1 a0).f1)]] (by rfl) rfl rfl zM ?_
       with_reducible refine (laws_eqNeed.calls ((rd_T30 l0 a0).f0) ((rd_T30 l0 a0).f1) ((rd_T30 l1 a0).f0) ((rd_T30 l1 a0).f1) true _ A8.out).mono ?_
       rintro e e2 ⟨rfl, hb⟩
       refine ⟨_, rfl, ?_⟩
       replace HB := zA (below_step (zB) hb)
       (try clear hb)
       refine hK.out _ _ zO fun hHeld => ?_
       clear hK K
       refine zn ?_
       refine zp 9 26 ?_
       refine done_ (done_of HT_.out (by kernel_rfl)) ?_
       try go_wp2
       go_roundg k2
       case measure => have := c6.out; have := c8.out; omega
       case rel => exact ⟨(wrap64 (a0 + 1)), zS, H', ⟨by have := c6.out; have := c8.out; omega⟩, ⟨zB⟩⟩
      ·obtain rfl := zm H
       try go_wp2
       replace HB := zA (below_drew1 HB.out)
       have a6 : 0 ≤ (a0 : Int) := zD
       have a7 : a0 < (l0.length : Int) := zD
       obtain ⟨a8, b5, a1, a2⟩ := at_T30 c3.out a0 a6 a7
       have d1 := a2
       have d2 := a1
       cases b5
       replace a1 := zx HB a1
       replace a2 := zx HB a2
       replace a6 := eq_true a6
       replace a7 := eq_true a7
       have a9 : 0 ≤ (a0 : Int) := zD
       have b0 : a0 < (l1.length : Int) := zD
       obtain ⟨b1, b6, a3, a4⟩ := at_T30 c5.out a0 a9 b0
       have d3 := a4
       have d4 := a3
       cases b6
       replace a3 := zx HB a3
       replace a4 := zx HB a4
       replace a9 := eq_true a9
       replace b0 := eq_true b0
       refine start_ (n := 10) (S := fun w' => w'.cell? (a8.add ((a0).toNat * 2)) = some (.string ((rd_T30 l0 a0).f0)) ∧ w'.cell? ⟨(a8.add ((a0).toNat * 2)).block, (a8.add ((a0).toNat * 2)).off + 1, none⟩ = some (.string ((rd_T30 l0 a0).f1)) ∧ w'.cell? (b1.add ((a0).toNat * 2)) = some (.string ((rd_T30 l1 a0).f0)) ∧ w'.cell? ⟨(b1.add ((a0).toNat * 2)).block, (b1.add ((a0).toNat * 2)).off + 1, none⟩ = some (.string ((rd_T30 l1 a0).f1))) (ds := []) (Array.replicate 10 false) (by kernel_rfl) rfl rfl zO fun hHeld => ?_; refine with_tabW laws_eqNeedS.tab6 laws_eqNeedS.bits6 (fun HT_ HW_ => ?_)
       generalize wr.drew = e3 at HB a1 a2 a3 a4 hHeld ⊢
       refine zp 0 17 ?_
       refine zp 1 18 ?_
       refine zp 2 19 ?_
       refine zp 4 21 ?_
       refine zp 5 22 ?_
       refine zp 6 23 ?_
       refine zt 3 20 ?_
       refine zt 7 24 ?_
       refine zo 8 (some 25) fun K hK => ?_
       refine goes_ Tryz.func117 (by kernel_rfl) rfl #[.agg #[.string ((rd_T30 l0 a0).f0), .string ((rd_T30 l0 a0).f1)], .agg #[.string ((rd_T30 l1 a0).f0), .string ((rd_T30 l1 a0).f1)]] (by rfl) rfl rfl zM ?_
       with_reducible refine (laws_eqNeed.calls ((rd_T30 l0 a0).f0) ((rd_T30 l0 a0).f1) ((rd_T30 l1 a0).f0) ((rd_T30 l1 a0).f1) false _ A8.out).mono ?_
       rintro e e4 ⟨rfl, hb⟩
       refine ⟨_, rfl, ?_⟩
       replace HB := zA (below_step (zB) hb)
       (try clear hb)
       refine hK.out _ _ zO fun hHeld => ?_
       clear hK K
       refine zn ?_
       refine zp 9 26 ?_
       refine done_ (done_of HT_.out (by kernel_rfl)) ?_
       try go_wp2
       go_ret
       exact ⟨zE, zB⟩
     ·obtain rfl := zm H
      go_wp2
      go_ret
      exact ⟨zE, zB⟩
/-! ### laws_eqEntry: function 73 -/
def laws_eqEntry.j0 : Nat → ByteArray → Int → Int → Int → List ByteArray → List (S30) → ByteArray → Int → Int → Int → List ByteArray → List (S30) → Option (Bool)
 | 0, _, _, _, _, _, _, _, _, _, _, _, _ => none
 | k + 1, b2, a0, a1, a2, a3, a4, b3, a5, a6, a7, a8, a9 => (laws_eqVer.f k a0 a1 a2 a3 a5 a6 a7 a8).bind fun b0 => (if b0 = true then ((laws_eqNeedS.f k a4 a9).bind fun b1 => (if b1 = true then (some true) else (some false))) else (some false))
def laws_eqEntry.f (k : Nat) (a0 : ByteArray) (a2 a3 a4 : Int) (a5 : List ByteArray) (a6 : List (S30)) (a1 : ByteArray) (a7 a8 a9 : Int) (b0 : List ByteArray) (b1 : List (S30)) : Option (Bool) := if a0.toList = a1.toList then (laws_eqEntry.j0 k a0 a2 a3 a4 a5 a6 a1 a7 a8 a9 b0 b1) else (some false)
theorem laws_eqEntry.calls (k : Nat) (c2 : ByteArray) (a6 a7 a8 : Int) (b2 : Option Addr) (b3 : Nat) (a2 : List ByteArray) (b6 : Option Addr) (b7 : Nat) (a4 : List (S30)) (c3 : ByteArray) (a9 b0 b1 : Int) (b4 : Option Addr) (b5 : Nat) (a3 : List ByteArray) (b8 : Option Addr) (b9 : Nat) (a5 : List (S30)) (r : Bool) (w : World) (d6 : Kd.C Kd.string w b2 a2.length a2) (d7 : a2.length ≤ b3) (d8 : Kd.C k30 w b6 a4.length a4) (d9 : a4.length ≤ b7) (e0 : Kd.C Kd.string w b4 a3.length a3) (e1 : a3.length ≤ b5) (e2 : Kd.C k30 w b8 a5.length a5) (e3 : a5.length ≤ b9) (h : laws_eqEntry.f k c2 a6 a7 a8 a2 a4 c3 a9 b0 b1 a3 a5 = some r) :
  Calls Tryz.prog 73 #[.agg #[.string c2, .int .i64 a6, .int .i64 a7, .int .i64 a8, .slice b2 a2.length b3, .slice b6 a4.length b7], .agg #[.string c3, .int .i64 a9, .int .i64 b0, .int .i64 b1, .slice b4 a3.length b5, .slice b8 a5.length b9]] w fun e w' => e = .returned (.bool r) ∧ Below w.heap.size w w' := by
 have h8 := Tryz.underlying102
 have h9 := Tryz.underlying32
 have d0 := zA d6
 have d1 := zA d7
 clear d6 d7
 have e4 := zA d8
 have e5 := zA d9
 clear d8 d9
 have d2 := zA e0
 have d3 := zA e1
 clear e0 e1
 have e6 := zA e2
 have e7 := zA e3
 clear e2 e3
 have HB := zA (Below.refl w.heap.size w)
 unfold laws_eqEntry.f at h
 have H := h
 clear h
 have d4 := zA H
 clear H
 go_enter Tryz.func73, Tryz.ntmps73
 go_upto_if 9 with (first | ((with_reducible refine zd 2 ?_); refine ze 2 102 #[.string c2, .int .i64 a6, .int .i64 a7, .int .i64 a8, .slice b2 a2.length b3, .slice b6 a4.length b7] ?_; intro f2 hg w4 hbox hb; have a0 := zA (hbox); have i0 := zi HB hg; have i1 := zi HB hg; replace HB := zA (below_step (zB) hb); clear hb hbox hg) | ((with_reducible refine zd 3 ?_); refine ze 3 102 #[.string c3, .int .i64 a9, .int .i64 b0, .int .i64 b1, .slice b4 a3.length b5, .slice b8 a5.length b9] ?_; intro f3 hg w5 hbox hb; have a1 := zA (hbox); have i2 := zi HB hg; have i3 := zi HB hg; replace HB := zh HB hb; have c5 := zA (zL hg (zK a0.out)); have c8 := zA (zJ hg (zK a0.out)); replace a0 := zb a0 hb; clear hb hbox hg; have i4 := c5.out; have i5 := c8.out; obtain ⟨f4, f5, f6, f7, f8, f9, g0, g1, g2, g3, g4, g5⟩ := ze6 a0.out; obtain ⟨g6, g7, g8, g9, h0, h1, h2, h3, h4, h5, h6, h7⟩ := ze6 a1.out))
 (try simp only [Act.put, zT])
 go_cut [] (fun wc => ∃ (kq : Nat), Aside0 (laws_eqEntry.j0 kq c2 a6 a7 a8 a2 a4 c3 a9 b0 b1 a3 a5 = some r) ∧ Aside0 (kq ≤ k) ∧ Aside0 (wc.heap[f2]? = some (.cells #[.string c2, .int .i64 a6, .int .i64 a7, .int .i64 a8, (.slice b2 a2.length b3), (.slice b6 a4.length b7)] 102 (0, 0))) ∧ Aside0 (wc.heap[f3]? = some (.cells #[.string c3, .int .i64 a9, .int .i64 b0, .int .i64 b1, (.slice b4 a3.length b5), (.slice b8 a5.length b9)] 102 (0, 0))) ∧ Aside0 (Below w.heap.size w wc))
 case first =>
  have H := d4.out
  clear d4
  replace H := zI1 H
  rcases H with ⟨c9, H⟩ | ⟨c9, H⟩
  ·have c0 := beq_iff_eq.mpr c9
   have e8 := bne_eq_false_iff_eq.mpr c9
   clear c9
   (first | rw [c0] | (simp only [i64_w, i32_w]; rw [c0]) | skip)
   have H' := zA H
   clear H
   go_wp2
   go_meet
   case rel => exact ⟨_, (by first | exact H' | (subst_vars; exact H')), ⟨by first | omega | exact Nat.le_refl _⟩, ⟨zK a0.out⟩, ⟨zK a1.out⟩, ⟨zW HB.out⟩⟩
  ·have c0 := beq_eq_false_iff_ne.mpr c9
   have e8 := bne_iff_ne.mpr c9
   (first | rw [c0] | (simp only [i64_w, i32_w]; rw [c0]) | skip)
   obtain rfl := zm H
   go_wp2
   go_ret
   exact ⟨zE, zW HB.out⟩
 case rest =>
  clear d4
  try clear c1
  try clear p2
  try clear c6
  try clear c7
  try clear c9
  try clear c0
  try clear e8
  try clear f4 f5 f6 f7 f8 f9 g0 g1 g2 g3 g4 g5
  try clear g6 g7 g8 g9 h0 h1 h2 h3 h4 h5 h6 h7
  obtain ⟨kq, HA, i6, a0, a1, HB⟩ := hcut
  cases kq with
  | zero => exact absurd HA.out (by simp [laws_eqEntry.j0])
  | succ c4 =>
   have H := HA.out
   clear HA
   simp only [laws_eqEntry.j0] at H
   replace H := Option.bind_eq_some_iff.mp H
   obtain ⟨i7, e9, H⟩ := H
   try dsimp only at H
   have d5 := zA e9
   clear e9
   replace H := zB0 H
   rcases H with ⟨rfl, H⟩ | ⟨rfl, H⟩
   ·replace H := Option.bind_eq_some_iff.mp H
    obtain ⟨i8, f0, H⟩ := H
    try dsimp only at H
    have f1 := zA f0
    clear f0
    replace H := zB0 H
    rcases H with ⟨rfl, H⟩ | ⟨rfl, H⟩
    ·obtain rfl := zm H
     have i9 := c5.out
     have j1 := c8.out
     obtain ⟨j2, j3, j4, j5, j6, j7, j8, j9, k0, k1, k2, k3⟩ := ze6 a0.out
     obtain ⟨k4, k5, k6, k7, k8, k9, l0, l1, l2, l3, l4, l5⟩ := ze6 a1.out
     go_wp2_with (first | ((with_reducible refine zq 15 ?_); refine zg (some 14) Tryz.func15 #[.agg #[.int .i64 a6, .int .i64 a7, .int .i64 a8, .slice b2 a2.length b3], .agg #[.int .i64 a9, .int .i64 b0, .int .i64 b1, .slice b4 a3.length b5]] ?_; (with_reducible refine (laws_eqVer.calls c4 a6 a7 a8 _ _ a2 a9 b0 b1 _ _ a3 true _ ?s1 ?s2 ?s3 ?s4 d5.out).mono ?_); (case s1 => exact zC (Kd.C_below d0.out HB.out)); (case s2 => exact d1.out); (case s3 => exact zC (Kd.C_below d2.out HB.out)); (case s4 => exact d3.out); rintro e l6 ⟨rfl, hb⟩; refine ⟨_, rfl, ?_⟩; replace a0 := zb a0 hb; replace a1 := zb a1 hb; replace HB := zh HB hb; (try clear hb); obtain ⟨l7, l8, l9, m0, m1, m2, m3, m4, m5, m6, m7, m8⟩ := ze6 a0.out; obtain ⟨m9, n0, n1, n2, n3, n4, n5, n6, n7, n8, n9, o0⟩ := ze6 a1.out) | ((with_reducible refine zq 65 ?_); refine zg (some 20) Tryz.func65 #[.slice b6 a4.length b7, .slice b8 a5.length b9] ?_; (with_reducible refine (laws_eqNeedS.calls c4 _ _ a4 _ _ a5 true _ ?s1 ?s2 ?s3 ?s4 f1.out).mono ?_); (case s1 => exact zC (Kd.C_below e4.out HB.out)); (case s2 => exact e5.out); (case s3 => exact zC (Kd.C_below e6.out HB.out)); (case s4 => exact e7.out); rintro e o1 ⟨rfl, hb⟩; refine ⟨_, rfl, ?_⟩; replace a0 := zb a0 hb; replace a1 := zb a1 hb; replace HB := zh HB hb; (try clear hb)))
     go_ret
     exact ⟨zE, zW HB.out⟩
    ·obtain rfl := zm H
     have o2 := c5.out
     have o3 := c8.out
     obtain ⟨o4, o5, o6, o7, o8, o9, p0, p1, p3, p4, p5, p6⟩ := ze6 a0.out
     obtain ⟨p7, p8, p9, q0, q1, q2, q3, q4, q5, q6, q7, q8⟩ := ze6 a1.out
     go_wp2_with (first | ((with_reducible refine zq 15 ?_); refine zg (some 14) Tryz.func15 #[.agg #[.int .i64 a6, .int .i64 a7, .int .i64 a8, .slice b2 a2.length b3], .agg #[.int .i64 a9, .int .i64 b0, .int .i64 b1, .slice b4 a3.length b5]] ?_; (with_reducible refine (laws_eqVer.calls c4 a6 a7 a8 _ _ a2 a9 b0 b1 _ _ a3 true _ ?s1 ?s2 ?s3 ?s4 d5.out).mono ?_); (case s1 => exact zC (Kd.C_below d0.out HB.out)); (case s2 => exact d1.out); (case s3 => exact zC (Kd.C_below d2.out HB.out)); (case s4 => exact d3.out); rintro e q9 ⟨rfl, hb⟩; refine ⟨_, rfl, ?_⟩; replace a0 := zb a0 hb; replace a1 := zb a1 hb; replace HB := zh HB hb; (try clear hb); obtain ⟨r0, r1, r2, r3, r4, r5, r6, r7, r8, r9, t0, t1⟩ := ze6 a0.out; obtain ⟨t2, t3, t4, t5, t6, t7, t8, t9, v0, v1, v2, v3⟩ := ze6 a1.out) | ((with_reducible refine zq 65 ?_); refine zg (some 20) Tryz.func65 #[.slice b6 a4.length b7, .slice b8 a5.length b9] ?_; (with_reducible refine (laws_eqNeedS.calls c4 _ _ a4 _ _ a5 false _ ?s1 ?s2 ?s3 ?s4 f1.out).mono ?_); (case s1 => exact zC (Kd.C_below e4.out HB.out)); (case s2 => exact e5.out); (case s3 => exact zC (Kd.C_below e6.out HB.out)); (case s4 => exact e7.out); rintro e v4 ⟨rfl, hb⟩; refine ⟨_, rfl, ?_⟩; replace a0 := zb a0 hb; replace a1 := zb a1 hb; replace HB := zh HB hb; (try clear hb)))
     go_ret
     exact ⟨zE, zW HB.out⟩
   ·obtain rfl := zm H
    have v5 := c5.out
    have v6 := c8.out
    obtain ⟨v7, v8, v9, x0, x1, x2, x3, x4, x5, x6, x7, x8⟩ := ze6 a0.out
    obtain ⟨x9, y0, y1, y2, y3, y4, y5, y6, y7, y8, y9, z0⟩ := ze6 a1.out
    go_wp2_with (first | ((with_reducible refine zq 15 ?_); refine zg (some 14) Tryz.func15 #[.agg #[.int .i64 a6, .int .i64 a7, .int .i64 a8, .slice b2 a2.length b3], .agg #[.int .i64 a9, .int .i64 b0, .int .i64 b1, .slice b4 a3.length b5]] ?_; (with_reducible refine (laws_eqVer.calls c4 a6 a7 a8 _ _ a2 a9 b0 b1 _ _ a3 false _ ?s1 ?s2 ?s3 ?s4 d5.out).mono ?_); (case s1 => exact zC (Kd.C_below d0.out HB.out)); (case s2 => exact d1.out); (case s3 => exact zC (Kd.C_below d2.out HB.out)); (case s4 => exact d3.out); rintro e z1 ⟨rfl, hb⟩; refine ⟨_, rfl, ?_⟩; replace a0 := zb a0 hb; replace a1 := zb a1 hb; replace HB := zh HB hb; (try clear hb)))
    go_ret
    exact ⟨zE, zW HB.out⟩
/-! ### laws_eqEntryS: function 25 -/
mutual
def laws_eqEntryS.j0 : Nat → List (S102) → List (S102) → Option (Bool)
 | 0, _, _ => none
 | k + 1, x0, x1 => laws_eqEntryS.l0 k x0 x1 0
def laws_eqEntryS.l0 : Nat → List (S102) → List (S102) → Int → Option (Bool)
 | 0, _, _, _ => none
 | k + 1, x0, x1, x5 => if x5 < (x0.length : Int) then (if 0 ≤ x5 then (if x5 < (x1.length : Int) then ((laws_eqEntry.f k ((rd_T102 x0 x5).f0) ((rd_T102 x0 x5).f1.f0) ((rd_T102 x0 x5).f1.f1) ((rd_T102 x0 x5).f1.f2) ((rd_T102 x0 x5).f1.f3) ((rd_T102 x0 x5).f2) ((rd_T102 x1 x5).f0) ((rd_T102 x1 x5).f1.f0) ((rd_T102 x1 x5).f1.f1) ((rd_T102 x1 x5).f1.f2) ((rd_T102 x1 x5).f1.f3) ((rd_T102 x1 x5).f2)).bind fun a0 => (if a0 = true then (laws_eqEntryS.l0 k x0 x1 (wrap64 (x5 + 1))) else (some false))) else (none)) else (none)) else (some true)
end
def laws_eqEntryS.f (k : Nat) (l0 : List (S102)) (l1 : List (S102)) : Option (Bool) := if (l0.length : Int) = (l1.length : Int) then (laws_eqEntryS.j0 k l0 l1) else (some false)
def laws_eqEntryS.T6 : Bool × List (List Nat × List Nat) := (true, [([], []), ([], []), ([0, 1], [0, 1]), ([2], [2]), ([], []), ([], []), ([4, 5], [4, 5]), ([6], [6]), ([3, 7], [3, 7]), ([8], [8])])
def laws_eqEntryS.B6 : List Nat := [0, 0, 3, 7, 0, 0, 48, 112, 255, 511]
theorem laws_eqEntryS.tab6 : rtab .any (opsOf Tryz.f25 6) = laws_eqEntryS.T6 := by kernel_rfl
theorem laws_eqEntryS.bits6 : waitsOk laws_eqEntryS.T6.2 laws_eqEntryS.B6 = true := by kernel_rfl
theorem laws_eqEntryS.calls (k : Nat) (A0 : Option Addr) (c0 : Nat) (l0 : List (S102)) (A1 : Option Addr) (c1 : Nat) (l1 : List (S102)) (r : Bool) (w : World) (f7 : Kd.C k102 w A0 l0.length l0) (f8 : l0.length ≤ c0) (f9 : Kd.C k102 w A1 l1.length l1) (g0 : l1.length ≤ c1) (h : laws_eqEntryS.f k l0 l1 = some r) :
  Calls Tryz.prog 25 #[.slice A0 l0.length c0, .slice A1 l1.length c1] w fun e w' => e = .returned (.bool r) ∧ Below w.heap.size w w' := by
 have i0 := Tryz.underlying102
 have g1 := zA f7
 have i1 := zA f8
 clear f7 f8
 have g2 := zA f9
 have i2 := zA g0
 clear f9 g0
 have HB := zA (Below.refl w.heap.size w)
 unfold laws_eqEntryS.f at h
 have H := h
 clear h
 have e4 := zA H
 clear H
 go_enter Tryz.func25, Tryz.ntmps25
 go_upto_if 10 with (fail)
 go_cut [] (fun wc => ∃ (kq : Nat), Aside0 (laws_eqEntryS.j0 kq l0 l1 = some r) ∧ Aside0 (kq ≤ k) ∧ Aside0 (Below w.heap.size w wc))
 case first =>
  have H := e4.out
  clear e4
  replace H := zI1 H
  rcases H with ⟨c4, H⟩ | ⟨c4, H⟩
  ·have b5 := beq_iff_eq.mpr c4
   have e5 := bne_eq_false_iff_eq.mpr c4
   have e6 : (l0.length == l1.length) = true := by first | simpa using c4 | (simp at c4 ⊢; omega)
   clear c4
   (first | rw [b5] | (simp only [i64_w, i32_w]; rw [b5]) | skip)
   have H' := zA H
   clear H
   go_wp2
   go_meet
   case rel => exact ⟨_, (by first | exact H' | (subst_vars; exact H')), ⟨by first | omega | exact Nat.le_refl _⟩, ⟨zB⟩⟩
  ·have b5 := beq_eq_false_iff_ne.mpr c4
   have e5 := bne_iff_ne.mpr c4
   have e6 : (l0.length == l1.length) = false := by first | simpa using c4 | (simp at c4 ⊢; omega)
   (first | rw [b5] | (simp only [i64_w, i32_w]; rw [b5]) | skip)
   obtain rfl := zm H
   go_wp2
   go_ret
   exact ⟨zE, zB⟩
 case rest =>
  clear e4
  try clear c1
  try clear c2
  try clear p2
  try clear c4
  try clear b5
  try clear e5
  try clear e6
  obtain ⟨kq, HA, g3, HB⟩ := hcut
  cases kq with
  | zero => exact absurd HA.out (by simp [laws_eqEntryS.j0])
  | succ g4 =>
   have H := HA.out
   clear HA
   simp only [laws_eqEntryS.j0] at H
   have H' := zA H
   clear H
   go_wp2
   go_loopg [5] g4 (fun kq v5 w' => ∃ (a0 : Int), v5 = .int .i64 a0 ∧ Aside0 (laws_eqEntryS.l0 kq l0 l1 a0 = some r) ∧ Aside0 (kq ≤ g4) ∧ Aside0 (Below w.heap.size w w'))
   case atStart => exact ⟨(0), zS, H', ⟨Nat.le_refl _⟩, ⟨zB⟩⟩
   case round =>
    clear H'
    try clear c1
    try clear c2
    try clear p2
    try clear c4
    try clear b5
    try clear e5
    try clear e6
    try clear p2
    obtain ⟨a0, rfl, HA, g5, HB⟩ := hrel
    cases gk with
    | zero => exact absurd HA.out (by simp [laws_eqEntryS.l0])
    | succ k2 =>
     have H := HA.out
     clear HA
     simp only [laws_eqEntryS.l0] at H
     replace H := zI0 H
     rcases H with ⟨g7, H⟩ | ⟨g7, H⟩
     ·replace H := zD0 H
      obtain ⟨i3, H⟩ := H
      replace H := zD0 H
      obtain ⟨i4, H⟩ := H
      replace H := Option.bind_eq_some_iff.mp H
      obtain ⟨i5, g6, H⟩ := H
      try dsimp only at H
      have A8 := zA g6
      clear g6
      replace H := zB0 H
      rcases H with ⟨rfl, H⟩ | ⟨rfl, H⟩
      ·have H' := zA H
       clear H
       try go_wp2
       replace HB := zA (below_drew1 HB.out)
       have b6 : 0 ≤ (a0 : Int) := zD
       have b7 : a0 < (l0.length : Int) := zD
       obtain ⟨a1, c3, c5, c6, c7, e7, a3, a4, a5, a6, a7, a8, c8, c9, d0, d1⟩ := at_T102 g1.out a0 b6 b7
       have g8 := a8
       have g9 := a7
       have h0 := a6
       have h1 := a5
       have h2 := a4
       have h3 := a3
       cases e7
       replace a3 := zx HB a3
       replace a4 := zx HB a4
       replace a5 := zx HB a5
       replace a6 := zx HB a6
       replace a7 := zx HB a7
       replace a8 := zx HB a8
       have d2 := zA c9
       have e8 := zA c8
       clear c9 c8
       have d3 := zA d1
       have e9 := zA d0
       clear d1 d0
       replace b6 := eq_true b6
       replace b7 := eq_true b7
       have b8 : 0 ≤ (a0 : Int) := zD
       have b9 : a0 < (l1.length : Int) := zD
       obtain ⟨a2, d4, d5, d6, d7, f4, a9, b0, b1, b2, b3, b4, d8, d9, e0, e1⟩ := at_T102 g2.out a0 b8 b9
       have h4 := b4
       have h5 := b3
       have h6 := b2
       have h7 := b1
       have h8 := b0
       have h9 := a9
       cases f4
       replace a9 := zx HB a9
       replace b0 := zx HB b0
       replace b1 := zx HB b1
       replace b2 := zx HB b2
       replace b3 := zx HB b3
       replace b4 := zx HB b4
       have e2 := zA d9
       have f5 := zA d8
       clear d9 d8
       have e3 := zA e1
       have f6 := zA e0
       clear e1 e0
       replace b8 := eq_true b8
       replace b9 := eq_true b9
       refine start_ (n := 10) (S := fun w' => w'.cell? (a1.add ((a0).toNat * 6)) = some (.string ((rd_T102 l0 a0).f0)) ∧ w'.cell? ⟨(a1.add ((a0).toNat * 6)).block, (a1.add ((a0).toNat * 6)).off + 1, none⟩ = some (.int .i64 ((rd_T102 l0 a0).f1.f0)) ∧ w'.cell? ⟨(a1.add ((a0).toNat * 6)).block, (a1.add ((a0).toNat * 6)).off + 2, none⟩ = some (.int .i64 ((rd_T102 l0 a0).f1.f1)) ∧ w'.cell? ⟨(a1.add ((a0).toNat * 6)).block, (a1.add ((a0).toNat * 6)).off + 3, none⟩ = some (.int .i64 ((rd_T102 l0 a0).f1.f2)) ∧ w'.cell? ⟨(a1.add ((a0).toNat * 6)).block, (a1.add ((a0).toNat * 6)).off + 4, none⟩ = some (.slice c3 ((rd_T102 l0 a0).f1.f3).length c5) ∧ w'.cell? ⟨(a1.add ((a0).toNat * 6)).block, (a1.add ((a0).toNat * 6)).off + 5, none⟩ = some (.slice c6 ((rd_T102 l0 a0).f2).length c7) ∧ w'.cell? (a2.add ((a0).toNat * 6)) = some (.string ((rd_T102 l1 a0).f0)) ∧ w'.cell? ⟨(a2.add ((a0).toNat * 6)).block, (a2.add ((a0).toNat * 6)).off + 1, none⟩ = some (.int .i64 ((rd_T102 l1 a0).f1.f0)) ∧ w'.cell? ⟨(a2.add ((a0).toNat * 6)).block, (a2.add ((a0).toNat * 6)).off + 2, none⟩ = some (.int .i64 ((rd_T102 l1 a0).f1.f1)) ∧ w'.cell? ⟨(a2.add ((a0).toNat * 6)).block, (a2.add ((a0).toNat * 6)).off + 3, none⟩ = some (.int .i64 ((rd_T102 l1 a0).f1.f2)) ∧ w'.cell? ⟨(a2.add ((a0).toNat * 6)).block, (a2.add ((a0).toNat * 6)).off + 4, none⟩ = some (.slice d4 ((rd_T102 l1 a0).f1.f3).length d5) ∧ w'.cell? ⟨(a2.add ((a0).toNat * 6)).block, (a2.add ((a0).toNat * 6)).off + 5, none⟩ = some (.slice d6 ((rd_T102 l1 a0).f2).length d7)) (ds := []) (Array.replicate 10 false) (by kernel_rfl) rfl rfl zO fun hHeld => ?_; refine with_tabW laws_eqEntryS.tab6 laws_eqEntryS.bits6 (fun HT_ HW_ => ?_)
       generalize wr.drew = i6 at HB d2 d3 e2 e3 a3 a4 a5 a6 a7 a8 a9 b0 b1 b2 b3 b4 hHeld ⊢
       refine zp 0 17 ?_
       refine zp 1 18 ?_
       refine zp 2 19 ?_
       refine zp 4 21 ?_
       refine zp 5 22 ?_
       refine zp 6 23 ?_
       refine zt 3 20 ?_
       refine zt 7 24 ?_
       refine zo 8 (some 25) fun K hK => ?_
       refine goes_ Tryz.func73 (by kernel_rfl) rfl #[.agg #[.string ((rd_T102 l0 a0).f0), .int .i64 ((rd_T102 l0 a0).f1.f0), .int .i64 ((rd_T102 l0 a0).f1.f1), .int .i64 ((rd_T102 l0 a0).f1.f2), .slice c3 ((rd_T102 l0 a0).f1.f3).length c5, .slice c6 ((rd_T102 l0 a0).f2).length c7], .agg #[.string ((rd_T102 l1 a0).f0), .int .i64 ((rd_T102 l1 a0).f1.f0), .int .i64 ((rd_T102 l1 a0).f1.f1), .int .i64 ((rd_T102 l1 a0).f1.f2), .slice d4 ((rd_T102 l1 a0).f1.f3).length d5, .slice d6 ((rd_T102 l1 a0).f2).length d7]] (by rfl) rfl rfl zM ?_
       with_reducible refine (laws_eqEntry.calls k2 ((rd_T102 l0 a0).f0) ((rd_T102 l0 a0).f1.f0) ((rd_T102 l0 a0).f1.f1) ((rd_T102 l0 a0).f1.f2) _ _ ((rd_T102 l0 a0).f1.f3) _ _ ((rd_T102 l0 a0).f2) ((rd_T102 l1 a0).f0) ((rd_T102 l1 a0).f1.f0) ((rd_T102 l1 a0).f1.f1) ((rd_T102 l1 a0).f1.f2) _ _ ((rd_T102 l1 a0).f1.f3) _ _ ((rd_T102 l1 a0).f2) true _ ?s1 ?s2 ?s3 ?s4 ?s5 ?s6 ?s7 ?s8 A8.out).mono ?_
       (case s1 => exact zC (Kd.C_below d2.out HB.out))
       (case s2 => exact e8.out)
       (case s3 => exact zC (Kd.C_below d3.out HB.out))
       (case s4 => exact e9.out)
       (case s5 => exact zC (Kd.C_below e2.out HB.out))
       (case s6 => exact f5.out)
       (case s7 => exact zC (Kd.C_below e3.out HB.out))
       (case s8 => exact f6.out)
       rintro e i7 ⟨rfl, hb⟩
       refine ⟨_, rfl, ?_⟩
       replace HB := zA (below_step (zB) hb)
       (try clear hb)
       refine hK.out _ _ zO fun hHeld => ?_
       clear hK K
       refine zn ?_
       refine zp 9 26 ?_
       refine done_ (done_of HT_.out (by kernel_rfl)) ?_
       try go_wp2
       go_roundg k2
       case measure => have := g3.out; have := g5.out; omega
       case rel => exact ⟨(wrap64 (a0 + 1)), zS, H', ⟨by have := g3.out; have := g5.out; omega⟩, ⟨zB⟩⟩
      ·obtain rfl := zm H
       try go_wp2
       replace HB := zA (below_drew1 HB.out)
       have b6 : 0 ≤ (a0 : Int) := zD
       have b7 : a0 < (l0.length : Int) := zD
       obtain ⟨a1, c3, c5, c6, c7, e7, a3, a4, a5, a6, a7, a8, c8, c9, d0, d1⟩ := at_T102 g1.out a0 b6 b7
       have g8 := a8
       have g9 := a7
       have h0 := a6
       have h1 := a5
       have h2 := a4
       have h3 := a3
       cases e7
       replace a3 := zx HB a3
       replace a4 := zx HB a4
       replace a5 := zx HB a5
       replace a6 := zx HB a6
       replace a7 := zx HB a7
       replace a8 := zx HB a8
       have d2 := zA c9
       have e8 := zA c8
       clear c9 c8
       have d3 := zA d1
       have e9 := zA d0
       clear d1 d0
       replace b6 := eq_true b6
       replace b7 := eq_true b7
       have b8 : 0 ≤ (a0 : Int) := zD
       have b9 : a0 < (l1.length : Int) := zD
       obtain ⟨a2, d4, d5, d6, d7, f4, a9, b0, b1, b2, b3, b4, d8, d9, e0, e1⟩ := at_T102 g2.out a0 b8 b9
       have h4 := b4
       have h5 := b3
       have h6 := b2
       have h7 := b1
       have h8 := b0
       have h9 := a9
       cases f4
       replace a9 := zx HB a9
       replace b0 := zx HB b0
       replace b1 := zx HB b1
       replace b2 := zx HB b2
       replace b3 := zx HB b3
       replace b4 := zx HB b4
       have e2 := zA d9
       have f5 := zA d8
       clear d9 d8
       have e3 := zA e1
       have f6 := zA e0
       clear e1 e0
       replace b8 := eq_true b8
       replace b9 := eq_true b9
       refine start_ (n := 10) (S := fun w' => w'.cell? (a1.add ((a0).toNat * 6)) = some (.string ((rd_T102 l0 a0).f0)) ∧ w'.cell? ⟨(a1.add ((a0).toNat * 6)).block, (a1.add ((a0).toNat * 6)).off + 1, none⟩ = some (.int .i64 ((rd_T102 l0 a0).f1.f0)) ∧ w'.cell? ⟨(a1.add ((a0).toNat * 6)).block, (a1.add ((a0).toNat * 6)).off + 2, none⟩ = some (.int .i64 ((rd_T102 l0 a0).f1.f1)) ∧ w'.cell? ⟨(a1.add ((a0).toNat * 6)).block, (a1.add ((a0).toNat * 6)).off + 3, none⟩ = some (.int .i64 ((rd_T102 l0 a0).f1.f2)) ∧ w'.cell? ⟨(a1.add ((a0).toNat * 6)).block, (a1.add ((a0).toNat * 6)).off + 4, none⟩ = some (.slice c3 ((rd_T102 l0 a0).f1.f3).length c5) ∧ w'.cell? ⟨(a1.add ((a0).toNat * 6)).block, (a1.add ((a0).toNat * 6)).off + 5, none⟩ = some (.slice c6 ((rd_T102 l0 a0).f2).length c7) ∧ w'.cell? (a2.add ((a0).toNat * 6)) = some (.string ((rd_T102 l1 a0).f0)) ∧ w'.cell? ⟨(a2.add ((a0).toNat * 6)).block, (a2.add ((a0).toNat * 6)).off + 1, none⟩ = some (.int .i64 ((rd_T102 l1 a0).f1.f0)) ∧ w'.cell? ⟨(a2.add ((a0).toNat * 6)).block, (a2.add ((a0).toNat * 6)).off + 2, none⟩ = some (.int .i64 ((rd_T102 l1 a0).f1.f1)) ∧ w'.cell? ⟨(a2.add ((a0).toNat * 6)).block, (a2.add ((a0).toNat * 6)).off + 3, none⟩ = some (.int .i64 ((rd_T102 l1 a0).f1.f2)) ∧ w'.cell? ⟨(a2.add ((a0).toNat * 6)).block, (a2.add ((a0).toNat * 6)).off + 4, none⟩ = some (.slice d4 ((rd_T102 l1 a0).f1.f3).length d5) ∧ w'.cell? ⟨(a2.add ((a0).toNat * 6)).block, (a2.add ((a0).toNat * 6)).off + 5, none⟩ = some (.slice d6 ((rd_T102 l1 a0).f2).length d7)) (ds := []) (Array.replicate 10 false) (by kernel_rfl) rfl rfl zO fun hHeld => ?_; refine with_tabW laws_eqEntryS.tab6 laws_eqEntryS.bits6 (fun HT_ HW_ => ?_)
       generalize wr.drew = i8 at HB d2 d3 e2 e3 a3 a4 a5 a6 a7 a8 a9 b0 b1 b2 b3 b4 hHeld ⊢
       refine zp 0 17 ?_
       refine zp 1 18 ?_
       refine zp 2 19 ?_
       refine zp 4 21 ?_
       refine zp 5 22 ?_
       refine zp 6 23 ?_
       refine zt 3 20 ?_
       refine zt 7 24 ?_
       refine zo 8 (some 25) fun K hK => ?_
       refine goes_ Tryz.func73 (by kernel_rfl) rfl #[.agg #[.string ((rd_T102 l0 a0).f0), .int .i64 ((rd_T102 l0 a0).f1.f0), .int .i64 ((rd_T102 l0 a0).f1.f1), .int .i64 ((rd_T102 l0 a0).f1.f2), .slice c3 ((rd_T102 l0 a0).f1.f3).length c5, .slice c6 ((rd_T102 l0 a0).f2).length c7], .agg #[.string ((rd_T102 l1 a0).f0), .int .i64 ((rd_T102 l1 a0).f1.f0), .int .i64 ((rd_T102 l1 a0).f1.f1), .int .i64 ((rd_T102 l1 a0).f1.f2), .slice d4 ((rd_T102 l1 a0).f1.f3).length d5, .slice d6 ((rd_T102 l1 a0).f2).length d7]] (by rfl) rfl rfl zM ?_
       with_reducible refine (laws_eqEntry.calls k2 ((rd_T102 l0 a0).f0) ((rd_T102 l0 a0).f1.f0) ((rd_T102 l0 a0).f1.f1) ((rd_T102 l0 a0).f1.f2) _ _ ((rd_T102 l0 a0).f1.f3) _ _ ((rd_T102 l0 a0).f2) ((rd_T102 l1 a0).f0) ((rd_T102 l1 a0).f1.f0) ((rd_T102 l1 a0).f1.f1) ((rd_T102 l1 a0).f1.f2) _ _ ((rd_T102 l1 a0).f1.f3) _ _ ((rd_T102 l1 a0).f2) false _ ?s1 ?s2 ?s3 ?s4 ?s5 ?s6 ?s7 ?s8 A8.out).mono ?_
       (case s1 => exact zC (Kd.C_below d2.out HB.out))
       (case s2 => exact e8.out)
       (case s3 => exact zC (Kd.C_below d3.out HB.out))
       (case s4 => exact e9.out)
       (case s5 => exact zC (Kd.C_below e2.out HB.out))
       (case s6 => exact f5.out)
       (case s7 => exact zC (Kd.C_below e3.out HB.out))
       (case s8 => exact f6.out)
       rintro e i9 ⟨rfl, hb⟩
       refine ⟨_, rfl, ?_⟩
       replace HB := zA (below_step (zB) hb)
       (try clear hb)
       refine hK.out _ _ zO fun hHeld => ?_
       clear hK K
       refine zn ?_
       refine zp 9 26 ?_
       refine done_ (done_of HT_.out (by kernel_rfl)) ?_
       try go_wp2
       go_ret
       exact ⟨zE, zB⟩
     ·obtain rfl := zm H
      go_wp2
      go_ret
      exact ⟨zE, zB⟩
/-! ### laws_FnExactRegOk: function 5 -/
mutual
def laws_FnExactRegOk.j0 : Nat → List (S100) → Option (Bool)
 | 0, _ => none
 | k + 1, x0 => (laws_toEntryS.f k x0).bind fun a1 => ((spec_RegOk.f k a1).bind fun a2 => ((laws_toEntryS.f k x0).bind fun a0 => ((impl_RegOk.f k a0).bind fun a3 => (if (a3 != a2) = true then (none) else (laws_FnExactRegOk.j1 k x0 a0)))))
def laws_FnExactRegOk.j1 : Nat → List (S100) → List (S102) → Option (Bool)
 | 0, _, _ => none
 | k + 1, x0, x5 => (laws_toEntryS.f k x0).bind fun a4 => ((laws_eqEntryS.f k x5 a4).bind fun a5 => (if a5 = true then (some true) else (none)))
end
def laws_FnExactRegOk.f (k : Nat) (l0 : List (S100)) : Option (Bool) := (laws_szEntryS.f k l0 1048576).bind fun a0 => (if a0 < 0 then (some true) else (laws_FnExactRegOk.j0 k l0))
theorem laws_FnExactRegOk.calls (k : Nat) (A0 : Option Addr) (c0 : Nat) (l0 : List (S100)) (r : Bool) (w : World) (c3 : Kd.C k100 w A0 l0.length l0) (c4 : l0.length ≤ c0) (hG : GW w) (h : laws_FnExactRegOk.f k l0 = some r) :
  Calls Tryz.prog 5 #[.slice A0 l0.length c0] w fun e w' => e = .returned (.bool r) ∧ Below w.heap.size w w' := by
 have b1 := zA c3
 have b2 := zA c4
 clear c3 c4
 have HG := zA hG
 clear hG
 have HB := zA (Below.refl w.heap.size w)
 unfold laws_FnExactRegOk.f at h
 have H := h
 clear h
 replace H := Option.bind_eq_some_iff.mp H
 obtain ⟨d4, c6, H⟩ := H
 try dsimp only at H
 have A2 := zA c6
 clear c6
 have b4 := zA H
 clear H
 go_enter Tryz.func5, Tryz.ntmps5
 go_upto_if 11 with (first | ((with_reducible refine zq 21 ?_); refine zg (some 9) Tryz.func21 #[.slice A0 l0.length c0, .int .i64 1048576] ?_; (with_reducible refine (laws_szEntryS.calls k _ _ l0 1048576 d4 _ ?s1 ?s2 A2.out).mono ?_); (case s1 => repeat (first | exact b1.out | (with_reducible refine Kd.C_alloc ?_ _) | (with_reducible refine Kd.C_drewN ?_ _) | (with_reducible refine Kd.C_drew ?_))); (case s2 => exact b2.out); rintro e w4 ⟨rfl, hb⟩; refine ⟨_, rfl, ?_⟩; replace HB := zA (below_step (zB) hb); (try clear hb)))
 (try simp only [Act.put, zT])
 go_cut [] (fun wc => ∃ (kq : Nat), Aside0 (laws_FnExactRegOk.j0 kq l0 = some r) ∧ Aside0 (kq ≤ k) ∧ Aside0 (Below w.heap.size w wc))
 case first =>
  have H := b4.out
  clear b4
  replace H := zI0 H
  rcases H with ⟨a3, H⟩ | ⟨a3, H⟩
  ·(first | rw [a3] | (simp only [i64_w, i32_w]; rw [a3]) | skip)
   obtain rfl := zm H
   go_wp2
   go_ret
   exact ⟨zE, zB⟩
  ·(first | rw [a3] | (simp only [i64_w, i32_w]; rw [a3]) | skip)
   have H' := zA H
   clear H
   go_wp2
   go_meet
   case rel => exact ⟨_, (by first | exact H' | (subst_vars; exact H')), ⟨by first | omega | exact Nat.le_refl _⟩, ⟨zB⟩⟩
 case rest =>
  clear b4
  try clear c2
  try clear p2
  try clear c5
  try clear a3
  obtain ⟨kq, HA, d5, HB⟩ := hcut
  cases kq with
  | zero => exact absurd HA.out (by simp [laws_FnExactRegOk.j0])
  | succ a7 =>
   have H := HA.out
   clear HA
   simp only [laws_FnExactRegOk.j0] at H
   replace H := Option.bind_eq_some_iff.mp H
   obtain ⟨b5, c7, H⟩ := H
   try dsimp only at H
   have A6 := zA c7
   clear c7
   replace H := Option.bind_eq_some_iff.mp H
   obtain ⟨a8, c8, H⟩ := H
   try dsimp only at H
   have A7 := zA c8
   clear c8
   replace H := Option.bind_eq_some_iff.mp H
   obtain ⟨a2, c9, H⟩ := H
   try dsimp only at H
   have A8 := zA c9
   clear c9
   replace H := Option.bind_eq_some_iff.mp H
   obtain ⟨a9, d0, H⟩ := H
   try dsimp only at H
   have A9 := zA d0
   clear d0
   have b6 := zA H
   clear H
   go_upto_if 21 with (first | ((with_reducible refine zq 23 ?_); refine zg (some 13) Tryz.func23 #[.slice A0 l0.length c0] ?_; (with_reducible refine (laws_toEntryS.calls a7 _ _ l0 b5 _ ?s1 ?s2 A6.out).mono ?_); (case s1 => exact zC (Kd.C_below b1.out HB.out)); (case s2 => exact b2.out); rintro e e7 ⟨e8, rfl, a0, hb⟩; refine ⟨_, rfl, ?_⟩; have a1 := zA (Kd.S_lower a0 (below_size (zB))); replace HB := zA (below_step (zB) hb); (try clear hb a0); obtain ⟨d6, d7, d8⟩ := Kd.S_slice a1.out; subst d8) | ((with_reducible refine zq 22 ?_); refine zg (some 14) Tryz.func22 #[.slice d6 b5.length d7] ?_; (with_reducible refine (spec_RegOk.calls a7 _ _ b5 a8 _ ?s1 ?s2 A7.out).mono ?_); (case s1 => repeat (first | exact (Kd.S_reads' a1.out).2.2 | (with_reducible refine Kd.C_alloc ?_ _) | (with_reducible refine Kd.C_drewN ?_ _) | (with_reducible refine Kd.C_drew ?_))); (case s2 => exact (Kd.S_reads' a1.out).2.1); rintro e e9 ⟨rfl, hb⟩; refine ⟨_, rfl, ?_⟩; replace a1 := zA (Kd.S_below (by (with_reducible repeat (first | apply Kd.S_alloc | apply Kd.S_drewN | apply Kd.S_drew)); exact a1.out) hb); replace HB := zA (below_step (zB) hb); (try clear hb)) | ((with_reducible refine zq 23 ?_); refine zg (some 16) Tryz.func23 #[.slice A0 l0.length c0] ?_; (with_reducible refine (laws_toEntryS.calls a7 _ _ l0 a2 _ ?s1 ?s2 A8.out).mono ?_); (case s1 => exact zC (Kd.C_below b1.out HB.out)); (case s2 => exact b2.out); rintro e f0 ⟨f1, rfl, a0, hb⟩; refine ⟨_, rfl, ?_⟩; have a5 := zA (Kd.S_lower (Kd.S_new' a0 (Kd.S_lt (by (with_reducible repeat (first | apply Kd.S_alloc | apply Kd.S_drewN | apply Kd.S_drew)); exact a1.out))) (below_size (zB))); replace a1 := zA (Kd.S_elder' (by (with_reducible repeat (first | apply Kd.S_alloc | apply Kd.S_drewN | apply Kd.S_drew)); exact a1.out) (Kd.S_base a0) hb); replace HB := zA (below_step (zB) hb); (try clear hb a0); obtain ⟨b7, b8, d9⟩ := Kd.S_slice a5.out; subst d9) | ((with_reducible refine zq 24 ?_); refine zg (some 18) Tryz.func24 #[.slice b7 a2.length b8] ?_; (with_reducible refine (impl_RegOk.calls a7 _ _ a2 a9 _ ?s1 ?s2 ?s3 A9.out).mono ?_); (case s1 => repeat (first | exact (Kd.S_reads' a5.out).2.2 | (with_reducible refine Kd.C_alloc ?_ _) | (with_reducible refine Kd.C_drewN ?_ _) | (with_reducible refine Kd.C_drew ?_))); (case s2 => exact (Kd.S_reads' a5.out).2.1); (case s3 => exact GW.below HG.out (zB)); rintro e f2 ⟨rfl, hb⟩; refine ⟨_, rfl, ?_⟩; replace a1 := zA (Kd.S_below (by (with_reducible repeat (first | apply Kd.S_alloc | apply Kd.S_drewN | apply Kd.S_drew)); exact a1.out) hb); replace a5 := zA (Kd.S_below (by (with_reducible repeat (first | apply Kd.S_alloc | apply Kd.S_drewN | apply Kd.S_drew)); exact a5.out) hb); replace HB := zA (below_step (zB) hb); (try clear hb)))
   (try simp only [Act.put, zT])
   go_cut [] (fun wc => ∃ (kq : Nat), Aside0 (laws_FnExactRegOk.j1 kq l0 a2 = some r) ∧ Aside0 (kq ≤ a7) ∧ Aside0 (Kd.S k102 102 wc w.heap.size (fun _ => True) (.slice b7 a2.length b8) a2) ∧ Aside0 (Below w.heap.size w wc))
   case first =>
    have H := b6.out
    clear b6
    replace H := zI1 H
    rcases H with ⟨a6, H⟩ | ⟨a6, H⟩
    ·exact absurd H (by simp)
    ·have b3 : (a9 != a8) = false := by simpa using a6
     (try (have e0 : decide (a9 = a8) = true := by simpa using a6))
     (try (have e1 : (a9 == a8) = true := by simpa using a6))
     clear a6
     (first | rw [b3] | (simp only [i64_w, i32_w]; rw [b3]) | rw [show (!(a9 == a8)) = false from b3] | skip)
     have H' := zA H
     clear H
     go_wp2
     go_meet
     case rel => exact ⟨_, (by first | exact H' | (subst_vars; exact H')), ⟨by have := d5.out; first | omega | exact Nat.le_refl _⟩, ⟨by (with_reducible repeat (first | apply Kd.S_alloc | apply Kd.S_drewN | apply Kd.S_drew)); exact Kd.S_mono a5.out (fun _ hk => trivial)⟩, ⟨zB⟩⟩
   case rest =>
    clear b6
    try clear c1
    try clear c2
    try clear p2
    try clear c5
    try clear a3
    try clear a6
    try clear b3
    try clear e0
    try clear e1
    try clear p2
    obtain ⟨kq, HA, f3, a4, HB⟩ := hcut
    cases kq with
    | zero => exact absurd HA.out (by simp [laws_FnExactRegOk.j1])
    | succ d1 =>
     have H := HA.out
     clear HA
     simp only [laws_FnExactRegOk.j1] at H
     replace H := Option.bind_eq_some_iff.mp H
     obtain ⟨b9, d2, H⟩ := H
     try dsimp only at H
     have e2 := zA d2
     clear d2
     replace H := Option.bind_eq_some_iff.mp H
     obtain ⟨f4, d3, H⟩ := H
     try dsimp only at H
     have e3 := zA d3
     clear d3
     replace H := zB0 H
     rcases H with ⟨rfl, H⟩ | ⟨rfl, H⟩
     ·obtain rfl := zm H
      go_wp2_with (first | ((with_reducible refine zq 23 ?_); refine zg (some 24) Tryz.func23 #[.slice A0 l0.length c0] ?_; (with_reducible refine (laws_toEntryS.calls d1 _ _ l0 b9 _ ?s1 ?s2 e2.out).mono ?_); (case s1 => exact zC (Kd.C_below b1.out HB.out)); (case s2 => exact b2.out); rintro e f5 ⟨f6, rfl, a0, hb⟩; refine ⟨_, rfl, ?_⟩; have b0 := zA (Kd.S_lower (Kd.S_new' a0 (Kd.S_lt (by (with_reducible repeat (first | apply Kd.S_alloc | apply Kd.S_drewN | apply Kd.S_drew)); exact a4.out))) (below_size (zB))); replace a4 := zA (Kd.S_elder' (by (with_reducible repeat (first | apply Kd.S_alloc | apply Kd.S_drewN | apply Kd.S_drew)); exact a4.out) (Kd.S_base a0) hb); replace HB := zA (below_step (zB) hb); (try clear hb a0); obtain ⟨e4, e5, e6⟩ := Kd.S_slice b0.out; subst e6) | ((with_reducible refine zq 25 ?_); refine zg (some 25) Tryz.func25 #[.slice b7 a2.length b8, .slice e4 b9.length e5] ?_; (with_reducible refine (laws_eqEntryS.calls d1 _ _ a2 _ _ b9 true _ ?s1 ?s2 ?s3 ?s4 e3.out).mono ?_); (case s1 => repeat (first | exact (Kd.S_reads' a4.out).2.2 | (with_reducible refine Kd.C_alloc ?_ _) | (with_reducible refine Kd.C_drewN ?_ _) | (with_reducible refine Kd.C_drew ?_))); (case s2 => exact (Kd.S_reads' a4.out).2.1); (case s3 => repeat (first | exact (Kd.S_reads' b0.out).2.2 | (with_reducible refine Kd.C_alloc ?_ _) | (with_reducible refine Kd.C_drewN ?_ _) | (with_reducible refine Kd.C_drew ?_))); (case s4 => exact (Kd.S_reads' b0.out).2.1); rintro e f7 ⟨rfl, hb⟩; refine ⟨_, rfl, ?_⟩; replace a4 := zA (Kd.S_below (by (with_reducible repeat (first | apply Kd.S_alloc | apply Kd.S_drewN | apply Kd.S_drew)); exact a4.out) hb); replace b0 := zA (Kd.S_below (by (with_reducible repeat (first | apply Kd.S_alloc | apply Kd.S_drewN | apply Kd.S_drew)); exact b0.out) hb); replace HB := zA (below_step (zB) hb); (try clear hb)))
      go_ret
      exact ⟨zE, zB⟩
     ·exact absurd H (by simp)
end Go.Proofs.YtpcdhoeoefoeoaaGreatDoor.PGD
