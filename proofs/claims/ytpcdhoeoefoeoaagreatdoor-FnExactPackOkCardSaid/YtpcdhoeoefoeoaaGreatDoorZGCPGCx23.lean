/- The walks of the functions that these laws reach, and what each comes to: printed by this session's program. -/
import Derived.Test.YtpcdhoeoefoeoaaGreatDoorZGCPGCx0
import Derived.Test.YtpcdhoeoefoeoaaGreatDoorZGCPGCx14
import Derived.Test.YtpcdhoeoefoeoaaGreatDoorZGCPGCx15
import Derived.Test.YtpcdhoeoefoeoaaGreatDoorZGCPGCx22
import Derived.Test.YtpcdhoeoefoeoaaGreatDoorZGCSays
import Derived.Test.YtpcdhoeoefoeoaaGreatDoorZGCRegs
namespace Go.Proofs.YtpcdhoeoefoeoaaGreatDoor.PGC
open Go.RowKit YtpcdhoeoefoeoaaGreatDoorW.PrintWords YtpcdhoeoefoeoaaGreatDoorW.PrintLast YtpcdhoeoefoeoaaGreatDoorW.PrintMore
attribute [local go_sem high] Mine.str_gtr Mine.str_leq Mine.str_geq
attribute [local go_sem] max2_int min2_int max_two min_two max_three min_three max_four min_four   -- for this text's walks alone
set_option linter.unusedVariables false
set_option maxHeartbeats 8000000
set_option maxRecDepth 100000
set_option linter.unusedSimpArgs false
/-! ### impl_PackOk: function 19 -/
def impl_PackOk.l0 : Nat → List (S93) → Int → Int → ByteArray → List ByteArray → List (S30) → List (S93) → Option (Bool)
 | 0, _, _, _, _, _, _, _ => none
 | k + 1, x6, x7, x8, a2, a1, a3, a0 => if x8 < x7 then (if 0 ≤ x8 then (if x8 < (x6.length : Int) then ((impl_cmdOk.f k ((rd_T93 x6 x8).f0) ((rd_T93 x6 x8).f1)).bind fun a4 => (if a4 = true then (if x8 > 0 then (if 0 ≤ (wrap64 (x8 - 1)) then (if (wrap64 (x8 - 1)) < (a0.length : Int) then (if ((Op.bytesLess (((rd_T93 a0 (wrap64 (x8 - 1))).f0).toList) (((rd_T93 x6 x8).f0).toList)) = true) then (impl_PackOk.l0 k x6 x7 (wrap64 (x8 + 1)) a2 a1 a3 a0) else (some false)) else (none)) else (none)) else (impl_PackOk.l0 k x6 x7 (wrap64 (x8 + 1)) a2 a1 a3 a0)) else (some false))) else (none)) else (none)) else ((impl_NameOk.f k a2).bind fun a5 => (if a5 = true then ((impl_namesOk.f k a1 4).bind fun a6 => (if a6 = true then ((impl_isAscending.f k a1).bind fun a7 => (if a7 = true then ((impl_needsOk.f k a3).bind fun a8 => (if a8 = true then (some (decide ((a0.length : Int) ≤ 4))) else (some false))) else (some false))) else (some false))) else (some false)))
def impl_PackOk.f (k : Nat) (a1 : ByteArray) (a2 : List ByteArray) (a3 : List (S30)) (a0 : List (S93)) : Option (Bool) := impl_PackOk.l0 k a0 (a0.length : Int) 0 a1 a2 a3 a0
def impl_PackOk.T4 : Bool × List (List Nat × List Nat) := (true, [([], []), ([0], [0]), ([1], [1]), ([2, 1], [2]), ([3], [3]), ([4, 3], [3, 4]), ([5, 3, 3], [3, 5]), ([6], [6]), ([7, 6], [6, 7]), ([6], [6]), ([9, 6], [6, 9]), ([6], [6]), ([11, 6], [6, 11]), ([10, 12, 6], [6, 10, 12]), ([13, 6], [6, 13]), ([14, 6], [6, 14]), ([8, 15, 6], [6, 8, 15]), ([6, 16, 3], [3, 6, 16]), ([3, 17], [3, 17])])
def impl_PackOk.B4 : List Nat := [0, 1, 3, 7, 15, 31, 63, 127, 255, 127, 639, 127, 2175, 7807, 15999, 32383, 65535, 131071, 262143]
theorem impl_PackOk.tab4 : rtab .any (opsOf Tryz.f19 4) = impl_PackOk.T4 := by kernel_rfl
theorem impl_PackOk.bits4 : waitsOk impl_PackOk.T4.2 impl_PackOk.B4 = true := by kernel_rfl
theorem impl_PackOk.calls (k : Nat) (a8 : ByteArray) (d4 : Option Addr) (d5 : Nat) (a9 : List ByteArray) (d6 : Option Addr) (d7 : Nat) (b2 : List (S30)) (e5 : Option Addr) (d8 : Nat) (a0 : List (S93)) (r : Bool) (w : World) (f8 : Kd.C Kd.string w d4 a9.length a9) (f9 : a9.length ≤ d5) (g0 : Kd.C k30 w d6 b2.length b2) (g1 : b2.length ≤ d7) (g2 : Kd.C k93 w e5 a0.length a0) (g3 : a0.length ≤ d8) (hG : GW w) (h : impl_PackOk.f k a8 a9 b2 a0 = some r) :
  Calls Tryz.prog 19 #[.agg #[.string a8, .slice d4 a9.length d5, .slice d6 b2.length d7, .slice e5 a0.length d8]] w fun e w' => e = .returned (.bool r) ∧ Below w.heap.size w w' := by
 have i7 := Tryz.underlying45
 have i8 := Tryz.underlying93
 have c4 := Aside0.mk f8
 have c5 := Aside0.mk f9
 clear f8 f9
 have g4 := Aside0.mk g0
 have g5 := Aside0.mk g1
 clear g0 g1
 have d9 := Aside0.mk g2
 have i9 := Aside0.mk g3
 clear g2 g3
 have HG := Aside0.mk hG
 clear hG
 have HB := zA (Below.refl w.heap.size w)
 unfold impl_PackOk.f at h
 have H := h
 clear h
 have H' := Aside0.mk H
 clear H
 go_enter Tryz.func19, Tryz.ntmps19
 go_wp2_with (first | ((with_reducible refine gate_dst (N := 1) rfl ?_); (try (refine gate_guard (by rfl) ?_; dsimp only)); refine box_event ?hg (N := 1) ?hd (cs := #[.string a8, .slice d4 a9.length d5, .slice d6 b2.length d7, .slice e5 a0.length d8]) (t := 45) ?hr ?_; (case hd => rfl); (case hg => rfl); (case hr => first | (go_simp; done) | (go_simp; rfl)); intro b8 hg w2 hbox hb; have a1 := zA (hbox); have j0 := zi HB hg; have j1 := zi HB hg; replace HB := zA (below_step (zB) hb); clear hb hbox hg; obtain ⟨h1, h2, h3, h4, h5, h6, h7, h8⟩ := ze4 a1.out))
 go_loopg [8] k (fun kq v8 w' => ∃ (a2 : Int), v8 = .int .i64 a2 ∧ Aside0 (impl_PackOk.l0 kq a0 (a0.length : Int) a2 a8 a9 b2 a0 = some r) ∧ Aside0 (kq ≤ k) ∧ Aside0 (w'.heap[b8]? = some (.cells #[.string a8, (.slice d4 a9.length d5), (.slice d6 b2.length d7), (.slice e5 a0.length d8)] 45 (0, 0))) ∧ Aside0 (Below w.heap.size w w'))
 case atStart => exact ⟨(0), zS, H', ⟨Nat.le_refl _⟩, ⟨zK a1.out⟩, ⟨zW HB.out⟩⟩
 case round =>
  clear H'
  try clear c1
  try clear p2
  try clear h1 h2 h3 h4 h5 h6 h7 h8
  obtain ⟨a2, rfl, HA, e6, a1, HB⟩ := hrel
  cases gk with
  | zero => exact absurd HA.out (by simp [impl_PackOk.l0])
  | succ k1 =>
   have H := HA.out
   clear HA
   simp only [impl_PackOk.l0] at H
   replace H := zI0 H
   rcases H with ⟨h9, H⟩ | ⟨h9, H⟩
   ·replace H := zD0 H
    obtain ⟨j2, H⟩ := H
    replace H := zD0 H
    obtain ⟨j3, H⟩ := H
    replace H := zj H
    obtain ⟨j4, A7, H⟩ := H
    try dsimp only at H
    replace H := zB0 H
    rcases H with ⟨rfl, H⟩ | ⟨rfl, H⟩
    ·replace H := zI1 H
     rcases H with ⟨c9, H⟩ | ⟨c9, H⟩
     ·have i0 : decide (0 < a2) = true := decide_eq_true c9
      clear c9
      obtain ⟨a5, e0⟩ : ∃ j_ : Int, (wrap64 (a2 - 1)) = j_ := ⟨_, rfl⟩
      replace H : (if 0 ≤ (a5) then (if (a5) < (a0.length : Int) then (if ((Op.bytesLess (((rd_T93 a0 (a5)).f0).toList) (((rd_T93 a0 a2).f0).toList)) = true) then (impl_PackOk.l0 k1 a0 (a0.length : Int) (wrap64 (a2 + 1)) a8 a9 b2 a0) else (some false)) else (none)) else (none)) = some r := by first | (rw [e0] at H; exact H) | (simp only [e0] at H ⊢; exact H)
      (try rw [e0] at A7)
      have hji10w : (IntKind.i64.wrap (a2 - 1)) = a5 := (i64_w _).trans e0
      replace H := zD0 H
      obtain ⟨j5, H⟩ := H
      replace H := zD0 H
      obtain ⟨j6, H⟩ := H
      replace H := zI1 H
      rcases H with ⟨e1, H⟩ | ⟨e1, H⟩
      ·have i1 : (Op.bytesLess (((rd_T93 a0 (a5)).f0).toList) (((rd_T93 a0 a2).f0).toList)) = true := e1
       clear e1
       have H' := Aside0.mk H
       clear H
       have b0 : 0 ≤ (a2 : Int) := zD
       have b1 : a2 < (a0.length : Int) := zD
       obtain ⟨b3, a6, a7, c6, b4, b5, b6, b7⟩ := at_T93 d9.out a2 b0 b1
       cases c6
       replace b4 := zx HB b4
       replace b5 := zx HB b5
       have c7 := Aside0.mk b7
       have c8 := Aside0.mk b6
       clear b7 b6
       replace b0 := eq_true b0
       replace b1 := eq_true b1
       try go_wp2_with (first | ((with_reducible refine gate_dst (N := 4) rfl ?_); (try (refine gate_guard (by rfl) ?_; dsimp only)); refine box_event ?hg (N := 4) ?hd (cs := #[.string (⟨#[]⟩ : ByteArray), .slice none 0 0]) (t := 93) ?hr ?_; (case hd => rfl); (case hg => rfl); (case hr => first | (go_simp; done) | (go_simp; rfl)); intro a4 hg i2 hbox hb; have a3 := zA (hbox); have e8 := zi HB hg; have e9 := zi HB hg; replace HB := zh HB hb; have d0 := zA (zL hg (zK a1.out)); have d1 := zA (zJ hg (zK a1.out)); replace a1 := zb a1 hb; clear hb hbox hg; have j7 := d1.out; have j8 := d0.out; obtain ⟨j9, k0, k2, k3⟩ := ze2 a3.out))
       generalize hW_ : ((i2.setCell ⟨a4, 0, none⟩ (.string ((rd_T93 a0 a2).f0))).setCell ⟨a4, 1, none⟩ (.slice a6 ((rd_T93 a0 a2).f1).length a7)) = g6
       replace a1 := zA (zh1 hW_.symm (zK a1.out))
       replace a3 : Aside0 (g6.heap[a4]? = some (.cells #[.string ((rd_T93 a0 a2).f0), .slice a6 ((rd_T93 a0 a2).f1).length a7] 93 (0, 0))) := ⟨by subst hW_; (with_reducible repeat (first | refine blk_drewN ?_ _ | refine blk_drew ?_ | refine blk_alloc ?_ _)); refine blk_put (cs := #[.string ((rd_T93 a0 a2).f0), .slice none 0 0]) ?_ 1 _ rfl; (with_reducible repeat (first | refine blk_drewN ?_ _ | refine blk_drew ?_ | refine blk_alloc ?_ _)); refine blk_put (cs := #[.string (⟨#[]⟩ : ByteArray), .slice none 0 0]) ?_ 0 _ rfl; (with_reducible repeat (first | refine blk_drewN ?_ _ | refine blk_drew ?_ | refine blk_alloc ?_ _)); exact a3.out⟩
       replace HB := zA (zh2 hW_.symm (zW HB.out))
       clear hW_
       replace a1 := zA (blk_drew a1.out)
       replace a3 := zA (blk_drew a3.out)
       replace HB := zA (below_drew1 HB.out)
       have d2 : 0 ≤ ((a5) : Int) := zD
       have d3 : (a5) < (a0.length : Int) := zD
       obtain ⟨f2, f3, f4, f5, b9, c0, e2, e3⟩ := at_T93 d9.out (a5) d2 d3
       have c2 := c0
       have c3 := b9
       obtain rfl : b3 = f2 := (by injection f5)
       replace b9 := zx HB b9
       replace c0 := zx HB c0
       have f6 := Aside0.mk e3
       have i3 := Aside0.mk e2
       clear e3 e2
       replace d2 := eq_true d2
       replace d3 := eq_true d3
       refine start_ (n := 19) (S := fun w' => w'.cell? ⟨a4, 0, none⟩ = some (.string ((rd_T93 a0 a2).f0)) ∧ w'.cell? ⟨a4, 1, none⟩ = some (.slice a6 ((rd_T93 a0 a2).f1).length a7) ∧ w'.cell? ⟨b8, 0, none⟩ = some (.string a8) ∧ w'.cell? ⟨b8, 1, none⟩ = some (.slice d4 a9.length d5) ∧ w'.cell? ⟨b8, 2, none⟩ = some (.slice d6 b2.length d7) ∧ w'.cell? ⟨b8, 3, none⟩ = some (.slice (some b3) a0.length d8) ∧ w'.cell? (b3.add (((a5)).toNat * 2)) = some (.string ((rd_T93 a0 (a5)).f0)) ∧ w'.cell? ⟨(b3.add (((a5)).toNat * 2)).block, (b3.add (((a5)).toNat * 2)).off + 1, none⟩ = some (.slice f3 ((rd_T93 a0 (a5)).f1).length f4)) (ds := []) (Array.replicate 19 false) (by kernel_rfl) rfl rfl ⟨(blk_cell a3.out 0).trans rfl, (blk_cell a3.out 1).trans rfl, (blk_cell a1.out 0).trans rfl, (blk_cell a1.out 1).trans rfl, (blk_cell a1.out 2).trans rfl, (blk_cell a1.out 3).trans rfl, ((HB.out.cell (World.block_lt_of_cell? w _ c3)).trans c3), ((HB.out.cell (World.block_lt_of_cell? w _ c2)).trans c2)⟩ (fun hHeld => ?_); refine with_tabW impl_PackOk.tab4 impl_PackOk.bits4 (fun HT_ HW_ => ?_)
       generalize g6.drew = k4 at a1 a3 HB f6 b9 c0 hHeld ⊢
       refine zt 0 13 ?_
       refine zo 1 (some 14) fun K hK => ?_
       refine goes_ Tryz.func60 (by kernel_rfl) rfl #[.agg #[.string ((rd_T93 a0 a2).f0), .slice a6 ((rd_T93 a0 a2).f1).length a7]] (by rfl) rfl rfl zM ?_
       with_reducible refine (impl_cmdOk.calls k1 ((rd_T93 a0 a2).f0) _ _ ((rd_T93 a0 a2).f1) true _ ?side1 ?side2 A7.out).mono ?_
       (case side1 => exact zC (Kd.C_below c7.out HB.out))
       (case side2 => exact c8.out)
       rintro e k5 ⟨rfl, hb⟩
       refine ⟨_, rfl, ?_⟩
       replace a1 := zb a1 hb
       replace a3 := zb a3 hb
       replace HB := zh HB hb
       (try clear hb)
       refine hK.out _ _ ⟨(blk_cell a3.out 0).trans rfl, (blk_cell a3.out 1).trans rfl, (blk_cell a1.out 0).trans rfl, (blk_cell a1.out 1).trans rfl, (blk_cell a1.out 2).trans rfl, (blk_cell a1.out 3).trans rfl, ((HB.out.cell (World.block_lt_of_cell? w _ c3)).trans c3), ((HB.out.cell (World.block_lt_of_cell? w _ c2)).trans c2)⟩ (fun hHeld => ?_)
       clear hK K
       refine zn ?_
       refine zp 2 15 ?_
       refine zp 3 16 ?_
       refine zp 4 17 ?_
       refine zp 5 18 ?_
       refine zp 6 19 ?_
       refine zp 7 20 ?_
       refine zp 9 22 ?_
       refine zp 11 24 ?_
       refine zp 12 25 ?_
       refine zt 8 21 ?_
       refine zt 10 23 ?_
       refine zp 13 26 ?_
       refine zp 14 27 ?_
       refine zt 15 28 ?_
       refine zp 16 29 ?_
       refine zp 17 30 ?_
       refine zp 18 31 ?_
       refine done_ (done_of HT_.out (by kernel_rfl)) ?_
       try go_wp2
       go_roundg k1
       case measure => have := e6.out; omega
       case rel => exact ⟨(wrap64 (a2 + 1)), zS, H', ⟨by have := e6.out; omega⟩, ⟨zK a1.out⟩, ⟨zW HB.out⟩⟩
      ·have i1 : (Op.bytesLess (((rd_T93 a0 (a5)).f0).toList) (((rd_T93 a0 a2).f0).toList)) = false := by simpa using e1
       clear e1
       obtain rfl := Option.some.inj H
       have b0 : 0 ≤ (a2 : Int) := zD
       have b1 : a2 < (a0.length : Int) := zD
       obtain ⟨b3, a6, a7, c6, b4, b5, b6, b7⟩ := at_T93 d9.out a2 b0 b1
       cases c6
       replace b4 := zx HB b4
       replace b5 := zx HB b5
       have c7 := Aside0.mk b7
       have c8 := Aside0.mk b6
       clear b7 b6
       replace b0 := eq_true b0
       replace b1 := eq_true b1
       try go_wp2_with (first | ((with_reducible refine gate_dst (N := 4) rfl ?_); (try (refine gate_guard (by rfl) ?_; dsimp only)); refine box_event ?hg (N := 4) ?hd (cs := #[.string (⟨#[]⟩ : ByteArray), .slice none 0 0]) (t := 93) ?hr ?_; (case hd => rfl); (case hg => rfl); (case hr => first | (go_simp; done) | (go_simp; rfl)); intro a4 hg i4 hbox hb; have a3 := zA (hbox); have e8 := zi HB hg; have e9 := zi HB hg; replace HB := zh HB hb; have d0 := zA (zL hg (zK a1.out)); have d1 := zA (zJ hg (zK a1.out)); replace a1 := zb a1 hb; clear hb hbox hg; have k6 := d1.out; have k7 := d0.out; obtain ⟨k8, k9, l1, l2⟩ := ze2 a3.out))
       generalize hW_ : ((i4.setCell ⟨a4, 0, none⟩ (.string ((rd_T93 a0 a2).f0))).setCell ⟨a4, 1, none⟩ (.slice a6 ((rd_T93 a0 a2).f1).length a7)) = g7
       replace a1 := zA (zh1 hW_.symm (zK a1.out))
       replace a3 : Aside0 (g7.heap[a4]? = some (.cells #[.string ((rd_T93 a0 a2).f0), .slice a6 ((rd_T93 a0 a2).f1).length a7] 93 (0, 0))) := ⟨by subst hW_; (with_reducible repeat (first | refine blk_drewN ?_ _ | refine blk_drew ?_ | refine blk_alloc ?_ _)); refine blk_put (cs := #[.string ((rd_T93 a0 a2).f0), .slice none 0 0]) ?_ 1 _ rfl; (with_reducible repeat (first | refine blk_drewN ?_ _ | refine blk_drew ?_ | refine blk_alloc ?_ _)); refine blk_put (cs := #[.string (⟨#[]⟩ : ByteArray), .slice none 0 0]) ?_ 0 _ rfl; (with_reducible repeat (first | refine blk_drewN ?_ _ | refine blk_drew ?_ | refine blk_alloc ?_ _)); exact a3.out⟩
       replace HB := zA (zh2 hW_.symm (zW HB.out))
       clear hW_
       replace a1 := zA (blk_drew a1.out)
       replace a3 := zA (blk_drew a3.out)
       replace HB := zA (below_drew1 HB.out)
       have d2 : 0 ≤ ((a5) : Int) := zD
       have d3 : (a5) < (a0.length : Int) := zD
       obtain ⟨f2, f3, f4, f5, b9, c0, e2, e3⟩ := at_T93 d9.out (a5) d2 d3
       have c2 := c0
       have c3 := b9
       obtain rfl : b3 = f2 := (by injection f5)
       replace b9 := zx HB b9
       replace c0 := zx HB c0
       have f6 := Aside0.mk e3
       have i3 := Aside0.mk e2
       clear e3 e2
       replace d2 := eq_true d2
       replace d3 := eq_true d3
       refine start_ (n := 19) (S := fun w' => w'.cell? ⟨a4, 0, none⟩ = some (.string ((rd_T93 a0 a2).f0)) ∧ w'.cell? ⟨a4, 1, none⟩ = some (.slice a6 ((rd_T93 a0 a2).f1).length a7) ∧ w'.cell? ⟨b8, 0, none⟩ = some (.string a8) ∧ w'.cell? ⟨b8, 1, none⟩ = some (.slice d4 a9.length d5) ∧ w'.cell? ⟨b8, 2, none⟩ = some (.slice d6 b2.length d7) ∧ w'.cell? ⟨b8, 3, none⟩ = some (.slice (some b3) a0.length d8) ∧ w'.cell? (b3.add (((a5)).toNat * 2)) = some (.string ((rd_T93 a0 (a5)).f0)) ∧ w'.cell? ⟨(b3.add (((a5)).toNat * 2)).block, (b3.add (((a5)).toNat * 2)).off + 1, none⟩ = some (.slice f3 ((rd_T93 a0 (a5)).f1).length f4)) (ds := []) (Array.replicate 19 false) (by kernel_rfl) rfl rfl ⟨(blk_cell a3.out 0).trans rfl, (blk_cell a3.out 1).trans rfl, (blk_cell a1.out 0).trans rfl, (blk_cell a1.out 1).trans rfl, (blk_cell a1.out 2).trans rfl, (blk_cell a1.out 3).trans rfl, ((HB.out.cell (World.block_lt_of_cell? w _ c3)).trans c3), ((HB.out.cell (World.block_lt_of_cell? w _ c2)).trans c2)⟩ (fun hHeld => ?_); refine with_tabW impl_PackOk.tab4 impl_PackOk.bits4 (fun HT_ HW_ => ?_)
       generalize g7.drew = l3 at a1 a3 HB f6 b9 c0 hHeld ⊢
       refine zt 0 13 ?_
       refine zo 1 (some 14) fun K hK => ?_
       refine goes_ Tryz.func60 (by kernel_rfl) rfl #[.agg #[.string ((rd_T93 a0 a2).f0), .slice a6 ((rd_T93 a0 a2).f1).length a7]] (by rfl) rfl rfl zM ?_
       with_reducible refine (impl_cmdOk.calls k1 ((rd_T93 a0 a2).f0) _ _ ((rd_T93 a0 a2).f1) true _ ?side1 ?side2 A7.out).mono ?_
       (case side1 => exact zC (Kd.C_below c7.out HB.out))
       (case side2 => exact c8.out)
       rintro e l4 ⟨rfl, hb⟩
       refine ⟨_, rfl, ?_⟩
       replace a1 := zb a1 hb
       replace a3 := zb a3 hb
       replace HB := zh HB hb
       (try clear hb)
       refine hK.out _ _ ⟨(blk_cell a3.out 0).trans rfl, (blk_cell a3.out 1).trans rfl, (blk_cell a1.out 0).trans rfl, (blk_cell a1.out 1).trans rfl, (blk_cell a1.out 2).trans rfl, (blk_cell a1.out 3).trans rfl, ((HB.out.cell (World.block_lt_of_cell? w _ c3)).trans c3), ((HB.out.cell (World.block_lt_of_cell? w _ c2)).trans c2)⟩ (fun hHeld => ?_)
       clear hK K
       refine zn ?_
       refine zp 2 15 ?_
       refine zp 3 16 ?_
       refine zp 4 17 ?_
       refine zp 5 18 ?_
       refine zp 6 19 ?_
       refine zp 7 20 ?_
       refine zp 9 22 ?_
       refine zp 11 24 ?_
       refine zp 12 25 ?_
       refine zt 8 21 ?_
       refine zt 10 23 ?_
       refine zp 13 26 ?_
       refine zp 14 27 ?_
       refine zt 15 28 ?_
       refine zp 16 29 ?_
       refine zp 17 30 ?_
       refine zp 18 31 ?_
       refine done_ (done_of HT_.out (by kernel_rfl)) ?_
       try go_wp2
       go_ret
       exact ⟨by first | rfl | (simp [errW_none, errW_some] <;> rfl) | (simp only [← e0]; first | rfl | (simp [errW_none, errW_some] <;> rfl)) | (simp [*, errW_none, errW_some] <;> rfl), zW HB.out⟩
     ·have i0 : decide (0 < a2) = false := decide_eq_false c9
      clear c9
      have H' := Aside0.mk H
      clear H
      have b0 : 0 ≤ (a2 : Int) := zD
      have b1 : a2 < (a0.length : Int) := zD
      obtain ⟨b3, a6, a7, c6, b4, b5, b6, b7⟩ := at_T93 d9.out a2 b0 b1
      cases c6
      replace b4 := zx HB b4
      replace b5 := zx HB b5
      have c7 := Aside0.mk b7
      have c8 := Aside0.mk b6
      clear b7 b6
      replace b0 := eq_true b0
      replace b1 := eq_true b1
      try go_wp2_with (first | ((with_reducible refine gate_dst (N := 4) rfl ?_); (try (refine gate_guard (by rfl) ?_; dsimp only)); refine box_event ?hg (N := 4) ?hd (cs := #[.string (⟨#[]⟩ : ByteArray), .slice none 0 0]) (t := 93) ?hr ?_; (case hd => rfl); (case hg => rfl); (case hr => first | (go_simp; done) | (go_simp; rfl)); intro a4 hg i5 hbox hb; have a3 := zA (hbox); have e8 := zi HB hg; have e9 := zi HB hg; replace HB := zh HB hb; have d0 := zA (zL hg (zK a1.out)); have d1 := zA (zJ hg (zK a1.out)); replace a1 := zb a1 hb; clear hb hbox hg; have l5 := d1.out; have l6 := d0.out; obtain ⟨l7, l8, l9, m0⟩ := ze2 a3.out))
      generalize hW_ : ((i5.setCell ⟨a4, 0, none⟩ (.string ((rd_T93 a0 a2).f0))).setCell ⟨a4, 1, none⟩ (.slice a6 ((rd_T93 a0 a2).f1).length a7)) = g8
      replace a1 := zA (zh1 hW_.symm (zK a1.out))
      replace a3 : Aside0 (g8.heap[a4]? = some (.cells #[.string ((rd_T93 a0 a2).f0), .slice a6 ((rd_T93 a0 a2).f1).length a7] 93 (0, 0))) := ⟨by subst hW_; (with_reducible repeat (first | refine blk_drewN ?_ _ | refine blk_drew ?_ | refine blk_alloc ?_ _)); refine blk_put (cs := #[.string ((rd_T93 a0 a2).f0), .slice none 0 0]) ?_ 1 _ rfl; (with_reducible repeat (first | refine blk_drewN ?_ _ | refine blk_drew ?_ | refine blk_alloc ?_ _)); refine blk_put (cs := #[.string (⟨#[]⟩ : ByteArray), .slice none 0 0]) ?_ 0 _ rfl; (with_reducible repeat (first | refine blk_drewN ?_ _ | refine blk_drew ?_ | refine blk_alloc ?_ _)); exact a3.out⟩
      replace HB := zA (zh2 hW_.symm (zW HB.out))
      clear hW_
      replace a1 := zA (blk_drew a1.out)
      replace a3 := zA (blk_drew a3.out)
      replace HB := zA (below_drew1 HB.out)
      refine start_ (n := 19) (S := fun w' => w'.cell? ⟨a4, 0, none⟩ = some (.string ((rd_T93 a0 a2).f0)) ∧ w'.cell? ⟨a4, 1, none⟩ = some (.slice a6 ((rd_T93 a0 a2).f1).length a7)) (ds := []) (Array.replicate 19 false) (by kernel_rfl) rfl rfl zO fun hHeld => ?_; refine with_tabW impl_PackOk.tab4 impl_PackOk.bits4 (fun HT_ HW_ => ?_)
      generalize g8.drew = m1 at a1 a3 HB hHeld ⊢
      refine zt 0 13 ?_
      refine zo 1 (some 14) fun K hK => ?_
      refine goes_ Tryz.func60 (by kernel_rfl) rfl #[.agg #[.string ((rd_T93 a0 a2).f0), .slice a6 ((rd_T93 a0 a2).f1).length a7]] (by rfl) rfl rfl zM ?_
      with_reducible refine (impl_cmdOk.calls k1 ((rd_T93 a0 a2).f0) _ _ ((rd_T93 a0 a2).f1) true _ ?side1 ?side2 A7.out).mono ?_
      (case side1 => exact zC (Kd.C_below c7.out HB.out))
      (case side2 => exact c8.out)
      rintro e m2 ⟨rfl, hb⟩
      refine ⟨_, rfl, ?_⟩
      replace a1 := zb a1 hb
      replace a3 := zb a3 hb
      replace HB := zh HB hb
      (try clear hb)
      refine hK.out _ _ zO fun hHeld => ?_
      clear hK K
      refine zn ?_
      refine zp 2 15 ?_
      refine zp 3 16 ?_
      refine zp 4 17 ?_
      refine zp 5 18 ?_
      refine zp 6 19 ?_
      refine zu 7 20 ?_
      refine zu 8 21 ?_
      refine zu 9 22 ?_
      refine zu 10 23 ?_
      refine zu 11 24 ?_
      refine zu 12 25 ?_
      refine zu 13 26 ?_
      refine zu 14 27 ?_
      refine zu 15 28 ?_
      refine zu 16 29 ?_
      refine zp 17 30 ?_
      refine zp 18 31 ?_
      refine done_ (done_of HT_.out (by kernel_rfl)) ?_
      try go_wp2
      go_roundg k1
      case measure => have := e6.out; omega
      case rel => exact ⟨(wrap64 (a2 + 1)), zS, H', ⟨by have := e6.out; omega⟩, ⟨zK a1.out⟩, ⟨zW HB.out⟩⟩
    ·obtain rfl := Option.some.inj H
     have b0 : 0 ≤ (a2 : Int) := zD
     have b1 : a2 < (a0.length : Int) := zD
     obtain ⟨b3, a6, a7, c6, b4, b5, b6, b7⟩ := at_T93 d9.out a2 b0 b1
     cases c6
     replace b4 := zx HB b4
     replace b5 := zx HB b5
     have c7 := Aside0.mk b7
     have c8 := Aside0.mk b6
     clear b7 b6
     replace b0 := eq_true b0
     replace b1 := eq_true b1
     try go_wp2_with (first | ((with_reducible refine gate_dst (N := 4) rfl ?_); (try (refine gate_guard (by rfl) ?_; dsimp only)); refine box_event ?hg (N := 4) ?hd (cs := #[.string (⟨#[]⟩ : ByteArray), .slice none 0 0]) (t := 93) ?hr ?_; (case hd => rfl); (case hg => rfl); (case hr => first | (go_simp; done) | (go_simp; rfl)); intro a4 hg i6 hbox hb; have a3 := zA (hbox); have e8 := zi HB hg; have e9 := zi HB hg; replace HB := zh HB hb; have d0 := zA (zL hg (zK a1.out)); have d1 := zA (zJ hg (zK a1.out)); replace a1 := zb a1 hb; clear hb hbox hg; have m3 := d1.out; have m4 := d0.out; obtain ⟨m5, m6, m7, m8⟩ := ze2 a3.out))
     generalize hW_ : ((i6.setCell ⟨a4, 0, none⟩ (.string ((rd_T93 a0 a2).f0))).setCell ⟨a4, 1, none⟩ (.slice a6 ((rd_T93 a0 a2).f1).length a7)) = g9
     replace a1 := zA (zh1 hW_.symm (zK a1.out))
     replace a3 : Aside0 (g9.heap[a4]? = some (.cells #[.string ((rd_T93 a0 a2).f0), .slice a6 ((rd_T93 a0 a2).f1).length a7] 93 (0, 0))) := ⟨by subst hW_; (with_reducible repeat (first | refine blk_drewN ?_ _ | refine blk_drew ?_ | refine blk_alloc ?_ _)); refine blk_put (cs := #[.string ((rd_T93 a0 a2).f0), .slice none 0 0]) ?_ 1 _ rfl; (with_reducible repeat (first | refine blk_drewN ?_ _ | refine blk_drew ?_ | refine blk_alloc ?_ _)); refine blk_put (cs := #[.string (⟨#[]⟩ : ByteArray), .slice none 0 0]) ?_ 0 _ rfl; (with_reducible repeat (first | refine blk_drewN ?_ _ | refine blk_drew ?_ | refine blk_alloc ?_ _)); exact a3.out⟩
     replace HB := zA (zh2 hW_.symm (zW HB.out))
     clear hW_
     replace a1 := zA (blk_drew a1.out)
     replace a3 := zA (blk_drew a3.out)
     replace HB := zA (below_drew1 HB.out)
     refine start_ (n := 19) (S := fun w' => w'.cell? ⟨a4, 0, none⟩ = some (.string ((rd_T93 a0 a2).f0)) ∧ w'.cell? ⟨a4, 1, none⟩ = some (.slice a6 ((rd_T93 a0 a2).f1).length a7)) (ds := []) (Array.replicate 19 false) (by kernel_rfl) rfl rfl zO fun hHeld => ?_; refine with_tabW impl_PackOk.tab4 impl_PackOk.bits4 (fun HT_ HW_ => ?_)
     generalize g9.drew = m9 at a1 a3 HB hHeld ⊢
     refine zt 0 13 ?_
     refine zo 1 (some 14) fun K hK => ?_
     refine goes_ Tryz.func60 (by kernel_rfl) rfl #[.agg #[.string ((rd_T93 a0 a2).f0), .slice a6 ((rd_T93 a0 a2).f1).length a7]] (by rfl) rfl rfl zM ?_
     with_reducible refine (impl_cmdOk.calls k1 ((rd_T93 a0 a2).f0) _ _ ((rd_T93 a0 a2).f1) false _ ?side1 ?side2 A7.out).mono ?_
     (case side1 => exact zC (Kd.C_below c7.out HB.out))
     (case side2 => exact c8.out)
     rintro e n0 ⟨rfl, hb⟩
     refine ⟨_, rfl, ?_⟩
     replace a1 := zb a1 hb
     replace a3 := zb a3 hb
     replace HB := zh HB hb
     (try clear hb)
     refine hK.out _ _ zO fun hHeld => ?_
     clear hK K
     refine zn ?_
     refine zp 2 15 ?_
     refine zp 3 16 ?_
     refine zu 4 17 ?_
     refine zu 5 18 ?_
     refine zu 6 19 ?_
     refine zu 7 20 ?_
     refine zu 8 21 ?_
     refine zu 9 22 ?_
     refine zu 10 23 ?_
     refine zu 11 24 ?_
     refine zu 12 25 ?_
     refine zu 13 26 ?_
     refine zu 14 27 ?_
     refine zu 15 28 ?_
     refine zu 16 29 ?_
     refine zu 17 30 ?_
     refine zp 18 31 ?_
     refine done_ (done_of HT_.out (by kernel_rfl)) ?_
     try go_wp2
     go_ret
     exact ⟨zE, zW HB.out⟩
   ·replace H := zj H
    obtain ⟨n1, e4, H⟩ := H
    try dsimp only at H
    replace H := zB0 H
    rcases H with ⟨rfl, H⟩ | ⟨rfl, H⟩
    ·replace H := zj H
     obtain ⟨n2, e7, H⟩ := H
     try dsimp only at H
     replace H := zB0 H
     rcases H with ⟨rfl, H⟩ | ⟨rfl, H⟩
     ·replace H := zj H
      obtain ⟨n3, f7, H⟩ := H
      try dsimp only at H
      replace H := zB0 H
      rcases H with ⟨rfl, H⟩ | ⟨rfl, H⟩
      ·replace H := zj H
       obtain ⟨n4, h0, H⟩ := H
       try dsimp only at H
       replace H := zB0 H
       rcases H with ⟨rfl, H⟩ | ⟨rfl, H⟩
       ·obtain rfl := Option.some.inj H
        obtain ⟨n5, n6, n7, n8, n9, o0, o1, o2⟩ := ze4 a1.out
        go_wp2_with (first | ((with_reducible refine zq 61 ?_); refine zg (some 35) Tryz.func61 #[.string a8] ?_; (with_reducible refine (impl_NameOk.calls k1 a8 true _ e4.out).mono ?_); rintro e w' ⟨rfl, ⟨nd, rfl⟩⟩; refine ⟨_, rfl, ?_⟩) | (go_at_call 62; (with_reducible refine (impl_namesOk.calls k1 _ _ a9 4 true _ ?side1 ?side2 e7.out).mono ?_); (case side1 => repeat (first | exact (Kd.C_below c4.out (zW HB.out)) | (with_reducible refine Kd.C_alloc ?_ _) | (with_reducible refine Kd.C_drewN ?_ _) | (with_reducible refine Kd.C_drew ?_))); (case side2 => exact c5.out); rintro e w' ⟨rfl, ⟨nd, rfl⟩⟩) | (go_at_call 63; (with_reducible refine (impl_isAscending.calls k1 _ _ a9 true _ ?side1 ?side2 f7.out).mono ?_); (case side1 => repeat (first | exact (Kd.C_below c4.out (zW HB.out)) | (with_reducible refine Kd.C_alloc ?_ _) | (with_reducible refine Kd.C_drewN ?_ _) | (with_reducible refine Kd.C_drew ?_))); (case side2 => exact c5.out); rintro e w' ⟨rfl, ⟨nd, rfl⟩⟩) | (go_at_call 64; (with_reducible refine (impl_needsOk.calls k1 _ _ b2 true _ ?side1 ?side2 ?side3 h0.out).mono ?_); (case side1 => repeat (first | exact (Kd.C_below g4.out (zW HB.out)) | (with_reducible refine Kd.C_alloc ?_ _) | (with_reducible refine Kd.C_drewN ?_ _) | (with_reducible refine Kd.C_drew ?_))); (case side2 => exact g5.out); (case side3 => exact GW.below HG.out (zW HB.out)); rintro e o3 ⟨rfl, hb⟩; replace a1 := zb a1 hb; replace HB := zh HB hb; (try clear hb); obtain ⟨o4, o5, o6, o7, o8, o9, p0, p1⟩ := ze4 a1.out))
        go_ret
        exact ⟨zE, zW HB.out⟩
       ·obtain rfl := Option.some.inj H
        obtain ⟨p3, p4, p5, p6, p7, p8, p9, q0⟩ := ze4 a1.out
        go_wp2_with (first | ((with_reducible refine zq 61 ?_); refine zg (some 35) Tryz.func61 #[.string a8] ?_; (with_reducible refine (impl_NameOk.calls k1 a8 true _ e4.out).mono ?_); rintro e w' ⟨rfl, ⟨nd, rfl⟩⟩; refine ⟨_, rfl, ?_⟩) | (go_at_call 62; (with_reducible refine (impl_namesOk.calls k1 _ _ a9 4 true _ ?side1 ?side2 e7.out).mono ?_); (case side1 => repeat (first | exact (Kd.C_below c4.out (zW HB.out)) | (with_reducible refine Kd.C_alloc ?_ _) | (with_reducible refine Kd.C_drewN ?_ _) | (with_reducible refine Kd.C_drew ?_))); (case side2 => exact c5.out); rintro e w' ⟨rfl, ⟨nd, rfl⟩⟩) | (go_at_call 63; (with_reducible refine (impl_isAscending.calls k1 _ _ a9 true _ ?side1 ?side2 f7.out).mono ?_); (case side1 => repeat (first | exact (Kd.C_below c4.out (zW HB.out)) | (with_reducible refine Kd.C_alloc ?_ _) | (with_reducible refine Kd.C_drewN ?_ _) | (with_reducible refine Kd.C_drew ?_))); (case side2 => exact c5.out); rintro e w' ⟨rfl, ⟨nd, rfl⟩⟩) | (go_at_call 64; (with_reducible refine (impl_needsOk.calls k1 _ _ b2 false _ ?side1 ?side2 ?side3 h0.out).mono ?_); (case side1 => repeat (first | exact (Kd.C_below g4.out (zW HB.out)) | (with_reducible refine Kd.C_alloc ?_ _) | (with_reducible refine Kd.C_drewN ?_ _) | (with_reducible refine Kd.C_drew ?_))); (case side2 => exact g5.out); (case side3 => exact GW.below HG.out (zW HB.out)); rintro e q1 ⟨rfl, hb⟩; replace a1 := zb a1 hb; replace HB := zh HB hb; (try clear hb)))
        go_ret
        exact ⟨zE, zW HB.out⟩
      ·obtain rfl := Option.some.inj H
       obtain ⟨q2, q3, q4, q5, q6, q7, q8, q9⟩ := ze4 a1.out
       go_wp2_with (first | ((with_reducible refine zq 61 ?_); refine zg (some 35) Tryz.func61 #[.string a8] ?_; (with_reducible refine (impl_NameOk.calls k1 a8 true _ e4.out).mono ?_); rintro e w' ⟨rfl, ⟨nd, rfl⟩⟩; refine ⟨_, rfl, ?_⟩) | (go_at_call 62; (with_reducible refine (impl_namesOk.calls k1 _ _ a9 4 true _ ?side1 ?side2 e7.out).mono ?_); (case side1 => repeat (first | exact (Kd.C_below c4.out (zW HB.out)) | (with_reducible refine Kd.C_alloc ?_ _) | (with_reducible refine Kd.C_drewN ?_ _) | (with_reducible refine Kd.C_drew ?_))); (case side2 => exact c5.out); rintro e w' ⟨rfl, ⟨nd, rfl⟩⟩) | (go_at_call 63; (with_reducible refine (impl_isAscending.calls k1 _ _ a9 false _ ?side1 ?side2 f7.out).mono ?_); (case side1 => repeat (first | exact (Kd.C_below c4.out (zW HB.out)) | (with_reducible refine Kd.C_alloc ?_ _) | (with_reducible refine Kd.C_drewN ?_ _) | (with_reducible refine Kd.C_drew ?_))); (case side2 => exact c5.out); rintro e w' ⟨rfl, ⟨nd, rfl⟩⟩))
       go_ret
       exact ⟨zE, zW HB.out⟩
     ·obtain rfl := Option.some.inj H
      obtain ⟨r0, r1, r2, r3, r4, r5, r6, r7⟩ := ze4 a1.out
      go_wp2_with (first | ((with_reducible refine zq 61 ?_); refine zg (some 35) Tryz.func61 #[.string a8] ?_; (with_reducible refine (impl_NameOk.calls k1 a8 true _ e4.out).mono ?_); rintro e w' ⟨rfl, ⟨nd, rfl⟩⟩; refine ⟨_, rfl, ?_⟩) | (go_at_call 62; (with_reducible refine (impl_namesOk.calls k1 _ _ a9 4 false _ ?side1 ?side2 e7.out).mono ?_); (case side1 => repeat (first | exact (Kd.C_below c4.out (zW HB.out)) | (with_reducible refine Kd.C_alloc ?_ _) | (with_reducible refine Kd.C_drewN ?_ _) | (with_reducible refine Kd.C_drew ?_))); (case side2 => exact c5.out); rintro e w' ⟨rfl, ⟨nd, rfl⟩⟩))
      go_ret
      exact ⟨zE, zW HB.out⟩
    ·obtain rfl := Option.some.inj H
     obtain ⟨r8, r9, t0, t1, t2, t3, t4, t5⟩ := ze4 a1.out
     go_wp2_with (first | ((with_reducible refine zq 61 ?_); refine zg (some 35) Tryz.func61 #[.string a8] ?_; (with_reducible refine (impl_NameOk.calls k1 a8 false _ e4.out).mono ?_); rintro e w' ⟨rfl, ⟨nd, rfl⟩⟩; refine ⟨_, rfl, ?_⟩))
     go_ret
     exact ⟨zE, zW HB.out⟩
end Go.Proofs.YtpcdhoeoefoeoaaGreatDoor.PGC
