/- The walks of the functions that these laws reach, and what each comes to: printed by this session's program. -/
import Derived.Test.YtpcdhoeoefoeoaaGreatDoorZGCPGCx0
import Derived.Test.YtpcdhoeoefoeoaaGreatDoorZGCPGCx24
import Derived.Test.YtpcdhoeoefoeoaaGreatDoorZGCSays
import Derived.Test.YtpcdhoeoefoeoaaGreatDoorZGCRegs
namespace Go.Proofs.YtpcdhoeoefoeoaaGreatDoor.PGC
open Go.RowKit YtpcdhoeoefoeoaaGreatDoorW.PrintWords YtpcdhoeoefoeoaaGreatDoorW.PrintLast YtpcdhoeoefoeoaaGreatDoorW.PrintMore
attribute [local go_sem high] Mine.str_gtr Mine.str_leq Mine.str_geq
attribute [local go_sem] max2_int min2_int max_two min_two max_three min_three max_four min_four   -- for this text's walks alone
set_option linter.unusedVariables false
set_option maxHeartbeats 8000000
set_option maxRecDepth 100000
set_option linter.unusedSimpArgs false
/-! ### laws_eqCmdS: function 66 -/
mutual
def laws_eqCmdS.j0 : Nat → List (S93) → List (S93) → Option (Bool)
 | 0, _, _ => none
 | k + 1, x0, x1 => laws_eqCmdS.l0 k x0 x1 0
def laws_eqCmdS.l0 : Nat → List (S93) → List (S93) → Int → Option (Bool)
 | 0, _, _, _ => none
 | k + 1, x0, x1, x5 => if x5 < (x0.length : Int) then (if 0 ≤ x5 then (if x5 < (x1.length : Int) then ((laws_eqCmd.f k ((rd_T93 x0 x5).f0) ((rd_T93 x0 x5).f1) ((rd_T93 x1 x5).f0) ((rd_T93 x1 x5).f1)).bind fun a0 => (if a0 = true then (laws_eqCmdS.l0 k x0 x1 (wrap64 (x5 + 1))) else (some false))) else (none)) else (none)) else (some true)
end
def laws_eqCmdS.f (k : Nat) (l0 : List (S93)) (l1 : List (S93)) : Option (Bool) := if (l0.length : Int) = (l1.length : Int) then (laws_eqCmdS.j0 k l0 l1) else (some false)
def laws_eqCmdS.T6 : Bool × List (List Nat × List Nat) := (true, [([], []), ([], []), ([0, 1], [0, 1]), ([2], [2]), ([], []), ([], []), ([4, 5], [4, 5]), ([6], [6]), ([3, 7], [3, 7]), ([8], [8])])
def laws_eqCmdS.B6 : List Nat := [0, 0, 3, 7, 0, 0, 48, 112, 255, 511]
theorem laws_eqCmdS.tab6 : rtab .any (opsOf Tryz.f66 6) = laws_eqCmdS.T6 := by kernel_rfl
theorem laws_eqCmdS.bits6 : waitsOk laws_eqCmdS.T6.2 laws_eqCmdS.B6 = true := by kernel_rfl
theorem laws_eqCmdS.calls (k : Nat) (A0 : Option Addr) (c0 : Nat) (l0 : List (S93)) (A1 : Option Addr) (c1 : Nat) (l1 : List (S93)) (r : Bool) (w : World) (d6 : Kd.C k93 w A0 l0.length l0) (d7 : l0.length ≤ c0) (d8 : Kd.C k93 w A1 l1.length l1) (d9 : l1.length ≤ c1) (h : laws_eqCmdS.f k l0 l1 = some r) :
  Calls Tryz.prog 66 #[.slice A0 l0.length c0, .slice A1 l1.length c1] w fun e w' => e = .returned (.bool r) ∧ Below w.heap.size w w' := by
 have e6 := Tryz.underlying93
 have e0 := Aside0.mk d6
 have e7 := Aside0.mk d7
 clear d6 d7
 have e1 := Aside0.mk d8
 have e8 := Aside0.mk d9
 clear d8 d9
 have HB := zA (Below.refl w.heap.size w)
 unfold laws_eqCmdS.f at h
 have H := h
 clear h
 have c9 := Aside0.mk H
 clear H
 go_enter Tryz.func66, Tryz.ntmps66
 go_upto_if 10 with (fail)
 go_cut [] (fun wc => ∃ (kq : Nat), Aside0 (laws_eqCmdS.j0 kq l0 l1 = some r) ∧ Aside0 (kq ≤ k) ∧ Aside0 (Below w.heap.size w wc))
 case first =>
  have H := c9.out
  clear c9
  replace H := zI1 H
  rcases H with ⟨c4, H⟩ | ⟨c4, H⟩
  ·have a9 := beq_iff_eq.mpr c4
   have d0 := bne_eq_false_iff_eq.mpr c4
   have d1 : (l0.length == l1.length) = true := by first | simpa using c4 | (simp at c4 ⊢; omega)
   clear c4
   (first | rw [a9] | (simp only [i64_w, i32_w]; rw [a9]) | skip)
   have H' := Aside0.mk H
   clear H
   go_wp2
   go_meet
   case rel => exact ⟨_, (by first | exact H' | (subst_vars; exact H')), ⟨by first | omega | exact Nat.le_refl _⟩, ⟨zB⟩⟩
  ·have a9 := beq_eq_false_iff_ne.mpr c4
   have d0 := bne_iff_ne.mpr c4
   have d1 : (l0.length == l1.length) = false := by first | simpa using c4 | (simp at c4 ⊢; omega)
   (first | rw [a9] | (simp only [i64_w, i32_w]; rw [a9]) | skip)
   obtain rfl := Option.some.inj H
   go_wp2
   go_ret
   exact ⟨zE, zB⟩
 case rest =>
  clear c9
  try clear c1
  try clear p2
  try clear c4
  try clear a9
  try clear d0
  try clear d1
  obtain ⟨kq, HA, e2, HB⟩ := hcut
  cases kq with
  | zero => exact absurd HA.out (by simp [laws_eqCmdS.j0])
  | succ e3 =>
   have H := HA.out
   clear HA
   simp only [laws_eqCmdS.j0] at H
   have H' := Aside0.mk H
   clear H
   go_wp2
   go_loopg [5] e3 (fun kq v5 w' => ∃ (a0 : Int), v5 = .int .i64 a0 ∧ Aside0 (laws_eqCmdS.l0 kq l0 l1 a0 = some r) ∧ Aside0 (kq ≤ e3) ∧ Aside0 (Below w.heap.size w w'))
   case atStart => exact ⟨(0), zS, H', ⟨Nat.le_refl _⟩, ⟨zB⟩⟩
   case round =>
    clear H'
    try clear c1
    try clear p2
    try clear c4
    try clear a9
    try clear d0
    try clear d1
    try clear p2
    obtain ⟨a0, rfl, HA, e4, HB⟩ := hrel
    cases gk with
    | zero => exact absurd HA.out (by simp [laws_eqCmdS.l0])
    | succ k2 =>
     have H := HA.out
     clear HA
     simp only [laws_eqCmdS.l0] at H
     replace H := zI0 H
     rcases H with ⟨e5, H⟩ | ⟨e5, H⟩
     ·replace H := zD0 H
      obtain ⟨e9, H⟩ := H
      replace H := zD0 H
      obtain ⟨f2, H⟩ := H
      replace H := zj H
      obtain ⟨f3, A8, H⟩ := H
      try dsimp only at H
      replace H := zB0 H
      rcases H with ⟨rfl, H⟩ | ⟨rfl, H⟩
      ·have H' := Aside0.mk H
       clear H
       try go_wp2
       replace HB := zA (below_drew1 HB.out)
       have b0 : 0 ≤ (a0 : Int) := zD
       have b1 : a0 < (l0.length : Int) := zD
       obtain ⟨b2, b6, b7, d2, a1, a2, b8, b9⟩ := at_T93 e0.out a0 b0 b1
       have a3 := a2
       have a4 := a1
       cases d2
       replace a1 := zx HB a1
       replace a2 := zx HB a2
       have c2 := Aside0.mk b9
       have d3 := Aside0.mk b8
       clear b9 b8
       replace b0 := eq_true b0
       replace b1 := eq_true b1
       have b3 : 0 ≤ (a0 : Int) := zD
       have b4 : a0 < (l1.length : Int) := zD
       obtain ⟨b5, c3, c5, d4, a5, a6, c6, c7⟩ := at_T93 e1.out a0 b3 b4
       have a7 := a6
       have a8 := a5
       cases d4
       replace a5 := zx HB a5
       replace a6 := zx HB a6
       have c8 := Aside0.mk c7
       have d5 := Aside0.mk c6
       clear c7 c6
       replace b3 := eq_true b3
       replace b4 := eq_true b4
       refine start_ (n := 10) (S := fun w' => w'.cell? (b2.add ((a0).toNat * 2)) = some (.string ((rd_T93 l0 a0).f0)) ∧ w'.cell? ⟨(b2.add ((a0).toNat * 2)).block, (b2.add ((a0).toNat * 2)).off + 1, none⟩ = some (.slice b6 ((rd_T93 l0 a0).f1).length b7) ∧ w'.cell? (b5.add ((a0).toNat * 2)) = some (.string ((rd_T93 l1 a0).f0)) ∧ w'.cell? ⟨(b5.add ((a0).toNat * 2)).block, (b5.add ((a0).toNat * 2)).off + 1, none⟩ = some (.slice c3 ((rd_T93 l1 a0).f1).length c5)) (ds := []) (Array.replicate 10 false) (by kernel_rfl) rfl rfl ⟨((HB.out.cell (World.block_lt_of_cell? w _ a4)).trans a4), ((HB.out.cell (World.block_lt_of_cell? w _ a3)).trans a3), ((HB.out.cell (World.block_lt_of_cell? w _ a8)).trans a8), ((HB.out.cell (World.block_lt_of_cell? w _ a7)).trans a7)⟩ (fun hHeld => ?_); refine with_tabW laws_eqCmdS.tab6 laws_eqCmdS.bits6 (fun HT_ HW_ => ?_)
       generalize wr.drew = f4 at HB c2 c8 a1 a2 a5 a6 hHeld ⊢
       refine zp 0 17 ?_
       refine zp 1 18 ?_
       refine zp 2 19 ?_
       refine zp 4 21 ?_
       refine zp 5 22 ?_
       refine zp 6 23 ?_
       refine zt 3 20 ?_
       refine zt 7 24 ?_
       refine zo 8 (some 25) fun K hK => ?_
       refine goes_ Tryz.func118 (by kernel_rfl) rfl #[.agg #[.string ((rd_T93 l0 a0).f0), .slice b6 ((rd_T93 l0 a0).f1).length b7], .agg #[.string ((rd_T93 l1 a0).f0), .slice c3 ((rd_T93 l1 a0).f1).length c5]] (by rfl) rfl rfl zM ?_
       with_reducible refine (laws_eqCmd.calls k2 ((rd_T93 l0 a0).f0) _ _ ((rd_T93 l0 a0).f1) ((rd_T93 l1 a0).f0) _ _ ((rd_T93 l1 a0).f1) true _ ?side1 ?side2 ?side3 ?side4 A8.out).mono ?_
       (case side1 => exact zC (Kd.C_below c2.out HB.out))
       (case side2 => exact d3.out)
       (case side3 => exact zC (Kd.C_below c8.out HB.out))
       (case side4 => exact d5.out)
       rintro e f5 ⟨rfl, hb⟩
       refine ⟨_, rfl, ?_⟩
       replace HB := zA (below_step (zB) hb)
       (try clear hb)
       refine hK.out _ _ ⟨((HB.out.cell (World.block_lt_of_cell? w _ a4)).trans a4), ((HB.out.cell (World.block_lt_of_cell? w _ a3)).trans a3), ((HB.out.cell (World.block_lt_of_cell? w _ a8)).trans a8), ((HB.out.cell (World.block_lt_of_cell? w _ a7)).trans a7)⟩ (fun hHeld => ?_)
       clear hK K
       refine zn ?_
       refine zp 9 26 ?_
       refine done_ (done_of HT_.out (by kernel_rfl)) ?_
       try go_wp2
       go_roundg k2
       case measure => have := e2.out; have := e4.out; omega
       case rel => exact ⟨(wrap64 (a0 + 1)), zS, H', ⟨by have := e2.out; have := e4.out; omega⟩, ⟨zB⟩⟩
      ·obtain rfl := Option.some.inj H
       try go_wp2
       replace HB := zA (below_drew1 HB.out)
       have b0 : 0 ≤ (a0 : Int) := zD
       have b1 : a0 < (l0.length : Int) := zD
       obtain ⟨b2, b6, b7, d2, a1, a2, b8, b9⟩ := at_T93 e0.out a0 b0 b1
       have a3 := a2
       have a4 := a1
       cases d2
       replace a1 := zx HB a1
       replace a2 := zx HB a2
       have c2 := Aside0.mk b9
       have d3 := Aside0.mk b8
       clear b9 b8
       replace b0 := eq_true b0
       replace b1 := eq_true b1
       have b3 : 0 ≤ (a0 : Int) := zD
       have b4 : a0 < (l1.length : Int) := zD
       obtain ⟨b5, c3, c5, d4, a5, a6, c6, c7⟩ := at_T93 e1.out a0 b3 b4
       have a7 := a6
       have a8 := a5
       cases d4
       replace a5 := zx HB a5
       replace a6 := zx HB a6
       have c8 := Aside0.mk c7
       have d5 := Aside0.mk c6
       clear c7 c6
       replace b3 := eq_true b3
       replace b4 := eq_true b4
       refine start_ (n := 10) (S := fun w' => w'.cell? (b2.add ((a0).toNat * 2)) = some (.string ((rd_T93 l0 a0).f0)) ∧ w'.cell? ⟨(b2.add ((a0).toNat * 2)).block, (b2.add ((a0).toNat * 2)).off + 1, none⟩ = some (.slice b6 ((rd_T93 l0 a0).f1).length b7) ∧ w'.cell? (b5.add ((a0).toNat * 2)) = some (.string ((rd_T93 l1 a0).f0)) ∧ w'.cell? ⟨(b5.add ((a0).toNat * 2)).block, (b5.add ((a0).toNat * 2)).off + 1, none⟩ = some (.slice c3 ((rd_T93 l1 a0).f1).length c5)) (ds := []) (Array.replicate 10 false) (by kernel_rfl) rfl rfl ⟨((HB.out.cell (World.block_lt_of_cell? w _ a4)).trans a4), ((HB.out.cell (World.block_lt_of_cell? w _ a3)).trans a3), ((HB.out.cell (World.block_lt_of_cell? w _ a8)).trans a8), ((HB.out.cell (World.block_lt_of_cell? w _ a7)).trans a7)⟩ (fun hHeld => ?_); refine with_tabW laws_eqCmdS.tab6 laws_eqCmdS.bits6 (fun HT_ HW_ => ?_)
       generalize wr.drew = f6 at HB c2 c8 a1 a2 a5 a6 hHeld ⊢
       refine zp 0 17 ?_
       refine zp 1 18 ?_
       refine zp 2 19 ?_
       refine zp 4 21 ?_
       refine zp 5 22 ?_
       refine zp 6 23 ?_
       refine zt 3 20 ?_
       refine zt 7 24 ?_
       refine zo 8 (some 25) fun K hK => ?_
       refine goes_ Tryz.func118 (by kernel_rfl) rfl #[.agg #[.string ((rd_T93 l0 a0).f0), .slice b6 ((rd_T93 l0 a0).f1).length b7], .agg #[.string ((rd_T93 l1 a0).f0), .slice c3 ((rd_T93 l1 a0).f1).length c5]] (by rfl) rfl rfl zM ?_
       with_reducible refine (laws_eqCmd.calls k2 ((rd_T93 l0 a0).f0) _ _ ((rd_T93 l0 a0).f1) ((rd_T93 l1 a0).f0) _ _ ((rd_T93 l1 a0).f1) false _ ?side1 ?side2 ?side3 ?side4 A8.out).mono ?_
       (case side1 => exact zC (Kd.C_below c2.out HB.out))
       (case side2 => exact d3.out)
       (case side3 => exact zC (Kd.C_below c8.out HB.out))
       (case side4 => exact d5.out)
       rintro e f7 ⟨rfl, hb⟩
       refine ⟨_, rfl, ?_⟩
       replace HB := zA (below_step (zB) hb)
       (try clear hb)
       refine hK.out _ _ ⟨((HB.out.cell (World.block_lt_of_cell? w _ a4)).trans a4), ((HB.out.cell (World.block_lt_of_cell? w _ a3)).trans a3), ((HB.out.cell (World.block_lt_of_cell? w _ a8)).trans a8), ((HB.out.cell (World.block_lt_of_cell? w _ a7)).trans a7)⟩ (fun hHeld => ?_)
       clear hK K
       refine zn ?_
       refine zp 9 26 ?_
       refine done_ (done_of HT_.out (by kernel_rfl)) ?_
       try go_wp2
       go_ret
       exact ⟨zE, zB⟩
     ·obtain rfl := Option.some.inj H
      go_wp2
      go_ret
      exact ⟨zE, zB⟩
/-! ### laws_eqPack: function 20 -/
mutual
def laws_eqPack.j0 : Nat → ByteArray → List ByteArray → List (S30) → List (S93) → ByteArray → List ByteArray → List (S30) → List (S93) → Option (Bool)
 | 0, _, _, _, _, _, _, _, _ => none
 | k + 1, a6, a0, a1, a2, a7, a3, a4, a5 => (laws_eqStringS.f k a0 a3).bind fun a8 => (if a8 = true then (laws_eqPack.j1 k a6 a0 a1 a2 a7 a3 a4 a5) else (some false))
def laws_eqPack.j1 : Nat → ByteArray → List ByteArray → List (S30) → List (S93) → ByteArray → List ByteArray → List (S30) → List (S93) → Option (Bool)
 | 0, _, _, _, _, _, _, _, _ => none
 | k + 1, a6, a0, a1, a2, a7, a3, a4, a5 => (laws_eqNeedS.f k a1 a4).bind fun a9 => (if a9 = true then ((laws_eqCmdS.f k a2 a5).bind fun b0 => (if b0 = true then (some true) else (some false))) else (some false))
end
def laws_eqPack.f (k : Nat) (a0 : ByteArray) (a2 : List ByteArray) (a3 : List (S30)) (a4 : List (S93)) (a1 : ByteArray) (a5 : List ByteArray) (a6 : List (S30)) (a7 : List (S93)) : Option (Bool) := if a0.toList = a1.toList then (laws_eqPack.j0 k a0 a2 a3 a4 a1 a5 a6 a7) else (some false)
theorem laws_eqPack.calls (k : Nat) (b2 : ByteArray) (b9 : Option Addr) (c0 : Nat) (a6 : List ByteArray) (a8 : Option Addr) (a9 : Nat) (a2 : List (S30)) (b3 : Option Addr) (b4 : Nat) (a4 : List (S93)) (b5 : ByteArray) (c3 : Option Addr) (c4 : Nat) (a7 : List ByteArray) (b0 : Option Addr) (b1 : Nat) (a3 : List (S30)) (b6 : Option Addr) (b7 : Nat) (a5 : List (S93)) (r : Bool) (w : World) (d9 : Kd.C Kd.string w b9 a6.length a6) (e0 : a6.length ≤ c0) (e1 : Kd.C k30 w a8 a2.length a2) (e2 : a2.length ≤ a9) (e3 : Kd.C k93 w b3 a4.length a4) (e4 : a4.length ≤ b4) (e5 : Kd.C Kd.string w c3 a7.length a7) (e6 : a7.length ≤ c4) (e7 : Kd.C k30 w b0 a3.length a3) (e8 : a3.length ≤ b1) (e9 : Kd.C k93 w b6 a5.length a5) (f0 : a5.length ≤ b7) (h : laws_eqPack.f k b2 a6 a2 a4 b5 a7 a3 a5 = some r) :
  Calls Tryz.prog 20 #[.agg #[.string b2, .slice b9 a6.length c0, .slice a8 a2.length a9, .slice b3 a4.length b4], .agg #[.string b5, .slice c3 a7.length c4, .slice b0 a3.length b1, .slice b6 a5.length b7]] w fun e w' => e = .returned (.bool r) ∧ Below w.heap.size w w' := by
 have k0 := Tryz.underlying45
 have h5 := Aside0.mk d9
 have h6 := Aside0.mk e0
 clear d9 e0
 have d1 := Aside0.mk e1
 have d2 := Aside0.mk e2
 clear e1 e2
 have f1 := Aside0.mk e3
 have f2 := Aside0.mk e4
 clear e3 e4
 have h7 := Aside0.mk e5
 have h8 := Aside0.mk e6
 clear e5 e6
 have d3 := Aside0.mk e7
 have d4 := Aside0.mk e8
 clear e7 e8
 have f3 := Aside0.mk e9
 have f4 := Aside0.mk f0
 clear e9 f0
 have HB := zA (Below.refl w.heap.size w)
 unfold laws_eqPack.f at h
 have H := h
 clear h
 have d5 := Aside0.mk H
 clear H
 go_enter Tryz.func20, Tryz.ntmps20
 go_upto_if 9 with (first | ((with_reducible refine zd 2 ?_); refine ze 2 45 #[.string b2, .slice b9 a6.length c0, .slice a8 a2.length a9, .slice b3 a4.length b4] ?_; intro f5 hg w4 hbox hb; have a0 := zA (hbox); have k1 := zi HB hg; have k2 := zi HB hg; replace HB := zA (below_step (zB) hb); clear hb hbox hg) | ((with_reducible refine zd 3 ?_); refine ze 3 45 #[.string b5, .slice c3 a7.length c4, .slice b0 a3.length b1, .slice b6 a5.length b7] ?_; intro f6 hg w5 hbox hb; have a1 := zA (hbox); have k3 := zi HB hg; have k4 := zi HB hg; replace HB := zh HB hb; have c7 := zA (zL hg (zK a0.out)); have c8 := zA (zJ hg (zK a0.out)); replace a0 := zb a0 hb; clear hb hbox hg; have k5 := c7.out; have k6 := c8.out; obtain ⟨f7, f8, f9, g0, g1, g2, g3, g4⟩ := ze4 a0.out; obtain ⟨g5, g6, g7, g8, g9, h0, h1, h2⟩ := ze4 a1.out))
 (try simp only [Act.put, zT])
 go_cut [] (fun wc => ∃ (kq : Nat), Aside0 (laws_eqPack.j0 kq b2 a6 a2 a4 b5 a7 a3 a5 = some r) ∧ Aside0 (kq ≤ k) ∧ Aside0 (wc.heap[f5]? = some (.cells #[.string b2, (.slice b9 a6.length c0), (.slice a8 a2.length a9), (.slice b3 a4.length b4)] 45 (0, 0))) ∧ Aside0 (wc.heap[f6]? = some (.cells #[.string b5, (.slice c3 a7.length c4), (.slice b0 a3.length b1), (.slice b6 a5.length b7)] 45 (0, 0))) ∧ Aside0 (Below w.heap.size w wc))
 case first =>
  have H := d5.out
  clear d5
  replace H := zI1 H
  rcases H with ⟨c9, H⟩ | ⟨c9, H⟩
  ·have b8 := beq_iff_eq.mpr c9
   have d6 := bne_eq_false_iff_eq.mpr c9
   clear c9
   (first | rw [b8] | (simp only [i64_w, i32_w]; rw [b8]) | skip)
   have H' := Aside0.mk H
   clear H
   go_wp2
   go_meet
   case rel => exact ⟨_, (by first | exact H' | (subst_vars; exact H')), ⟨by first | omega | exact Nat.le_refl _⟩, ⟨zK a0.out⟩, ⟨zK a1.out⟩, ⟨zW HB.out⟩⟩
  ·have b8 := beq_eq_false_iff_ne.mpr c9
   have d6 := bne_iff_ne.mpr c9
   (first | rw [b8] | (simp only [i64_w, i32_w]; rw [b8]) | skip)
   obtain rfl := Option.some.inj H
   go_wp2
   go_ret
   exact ⟨zE, zW HB.out⟩
 case rest =>
  clear d5
  try clear c1
  try clear c2
  try clear p2
  try clear c6
  try clear c9
  try clear b8
  try clear d6
  try clear f7 f8 f9 g0 g1 g2 g3 g4
  try clear g5 g6 g7 g8 g9 h0 h1 h2
  obtain ⟨kq, HA, h9, a0, a1, HB⟩ := hcut
  cases kq with
  | zero => exact absurd HA.out (by simp [laws_eqPack.j0])
  | succ h3 =>
   have H := HA.out
   clear HA
   simp only [laws_eqPack.j0] at H
   replace H := zj H
   obtain ⟨i0, i1, H⟩ := H
   try dsimp only at H
   have d7 := Aside0.mk H
   clear H
   have k7 := c7.out
   have k8 := c8.out
   obtain ⟨i2, i3, i4, i5, i6, i7, i8, i9⟩ := ze4 a0.out
   obtain ⟨j2, j3, j4, j5, j6, j7, j8, j9⟩ := ze4 a1.out
   go_upto_if 15 with (first | ((with_reducible refine zq 50 ?_); refine zg (some 14) Tryz.func50 #[.slice b9 a6.length c0, .slice c3 a7.length c4] ?_; (with_reducible refine (laws_eqStringS.calls h3 _ _ a6 _ _ a7 i0 _ ?side1 ?side2 ?side3 ?side4 i1.out).mono ?_); (case side1 => exact zC (Kd.C_below h5.out HB.out)); (case side2 => exact h6.out); (case side3 => exact zC (Kd.C_below h7.out HB.out)); (case side4 => exact h8.out); rintro e w' ⟨rfl, ⟨nd, rfl⟩⟩; refine ⟨_, rfl, ?_⟩))
   (try simp only [Act.put, zT])
   go_cut [] (fun wc => ∃ (kq : Nat), Aside0 (laws_eqPack.j1 kq b2 a6 a2 a4 b5 a7 a3 a5 = some r) ∧ Aside0 (kq ≤ h3) ∧ Aside0 (wc.heap[f5]? = some (.cells #[.string b2, (.slice b9 a6.length c0), (.slice a8 a2.length a9), (.slice b3 a4.length b4)] 45 (0, 0))) ∧ Aside0 (wc.heap[f6]? = some (.cells #[.string b5, (.slice c3 a7.length c4), (.slice b0 a3.length b1), (.slice b6 a5.length b7)] 45 (0, 0))) ∧ Aside0 (Below w.heap.size w wc))
   case first =>
    have H := d7.out
    clear d7
    replace H := zB0 H
    rcases H with ⟨rfl, H⟩ | ⟨rfl, H⟩
    ·have H' := Aside0.mk H
     clear H
     go_wp2
     go_meet
     case rel => exact ⟨_, (by first | exact H' | (subst_vars; exact H')), ⟨by have := h9.out; first | omega | exact Nat.le_refl _⟩, ⟨zK a0.out⟩, ⟨zK a1.out⟩, ⟨zW HB.out⟩⟩
    ·obtain rfl := Option.some.inj H
     go_wp2
     go_ret
     exact ⟨zE, zW HB.out⟩
   case rest =>
    clear d7
    try clear c1
    try clear c2
    try clear p2
    try clear c5
    try clear c6
    try clear c9
    try clear b8
    try clear d6
    try clear c12
    try clear c15
    try clear i2 i3 i4 i5 i6 i7 i8 i9
    try clear j2 j3 j4 j5 j6 j7 j8 j9
    try clear f7 f8 f9 g0 g1 g2 g3 g4
    try clear g5 g6 g7 g8 g9 h0 h1 h2
    try clear p2
    obtain ⟨kq, HA, k9, a0, a1, HB⟩ := hcut
    cases kq with
    | zero => exact absurd HA.out (by simp [laws_eqPack.j1])
    | succ d0 =>
     have H := HA.out
     clear HA
     simp only [laws_eqPack.j1] at H
     replace H := zj H
     obtain ⟨l0, d8, H⟩ := H
     try dsimp only at H
     replace H := zB0 H
     rcases H with ⟨rfl, H⟩ | ⟨rfl, H⟩
     ·replace H := zj H
      obtain ⟨l1, h4, H⟩ := H
      try dsimp only at H
      replace H := zB0 H
      rcases H with ⟨rfl, H⟩ | ⟨rfl, H⟩
      ·obtain rfl := Option.some.inj H
       have l2 := c7.out
       have l3 := c8.out
       obtain ⟨l4, l5, l6, l7, l8, l9, m0, m1⟩ := ze4 a0.out
       obtain ⟨m2, m3, m4, m5, m6, m7, m8, m9⟩ := ze4 a1.out
       go_wp2_with (first | ((with_reducible refine zq 65 ?_); refine zg (some 20) Tryz.func65 #[.slice a8 a2.length a9, .slice b0 a3.length b1] ?_; (with_reducible refine (laws_eqNeedS.calls d0 _ _ a2 _ _ a3 true _ ?side1 ?side2 ?side3 ?side4 d8.out).mono ?_); (case side1 => exact zC (Kd.C_below d1.out HB.out)); (case side2 => exact d2.out); (case side3 => exact zC (Kd.C_below d3.out HB.out)); (case side4 => exact d4.out); rintro e n0 ⟨rfl, hb⟩; refine ⟨_, rfl, ?_⟩; replace a0 := zb a0 hb; replace a1 := zb a1 hb; replace HB := zh HB hb; (try clear hb); obtain ⟨n1, n2, n3, n4, n5, n6, n7, n8⟩ := ze4 a0.out; obtain ⟨n9, o0, o1, o2, o3, o4, o5, o6⟩ := ze4 a1.out) | ((with_reducible refine zq 66 ?_); refine zg (some 26) Tryz.func66 #[.slice b3 a4.length b4, .slice b6 a5.length b7] ?_; (with_reducible refine (laws_eqCmdS.calls d0 _ _ a4 _ _ a5 true _ ?side1 ?side2 ?side3 ?side4 h4.out).mono ?_); (case side1 => exact zC (Kd.C_below f1.out HB.out)); (case side2 => exact f2.out); (case side3 => exact zC (Kd.C_below f3.out HB.out)); (case side4 => exact f4.out); rintro e o7 ⟨rfl, hb⟩; refine ⟨_, rfl, ?_⟩; replace a0 := zb a0 hb; replace a1 := zb a1 hb; replace HB := zh HB hb; (try clear hb)))
       go_ret
       exact ⟨zE, zW HB.out⟩
      ·obtain rfl := Option.some.inj H
       have o8 := c7.out
       have o9 := c8.out
       obtain ⟨p0, p1, p3, p4, p5, p6, p7, p8⟩ := ze4 a0.out
       obtain ⟨p9, q0, q1, q2, q3, q4, q5, q6⟩ := ze4 a1.out
       go_wp2_with (first | ((with_reducible refine zq 65 ?_); refine zg (some 20) Tryz.func65 #[.slice a8 a2.length a9, .slice b0 a3.length b1] ?_; (with_reducible refine (laws_eqNeedS.calls d0 _ _ a2 _ _ a3 true _ ?side1 ?side2 ?side3 ?side4 d8.out).mono ?_); (case side1 => exact zC (Kd.C_below d1.out HB.out)); (case side2 => exact d2.out); (case side3 => exact zC (Kd.C_below d3.out HB.out)); (case side4 => exact d4.out); rintro e q7 ⟨rfl, hb⟩; refine ⟨_, rfl, ?_⟩; replace a0 := zb a0 hb; replace a1 := zb a1 hb; replace HB := zh HB hb; (try clear hb); obtain ⟨q8, q9, r0, r1, r2, r3, r4, r5⟩ := ze4 a0.out; obtain ⟨r6, r7, r8, r9, t0, t1, t2, t3⟩ := ze4 a1.out) | ((with_reducible refine zq 66 ?_); refine zg (some 26) Tryz.func66 #[.slice b3 a4.length b4, .slice b6 a5.length b7] ?_; (with_reducible refine (laws_eqCmdS.calls d0 _ _ a4 _ _ a5 false _ ?side1 ?side2 ?side3 ?side4 h4.out).mono ?_); (case side1 => exact zC (Kd.C_below f1.out HB.out)); (case side2 => exact f2.out); (case side3 => exact zC (Kd.C_below f3.out HB.out)); (case side4 => exact f4.out); rintro e t4 ⟨rfl, hb⟩; refine ⟨_, rfl, ?_⟩; replace a0 := zb a0 hb; replace a1 := zb a1 hb; replace HB := zh HB hb; (try clear hb)))
       go_ret
       exact ⟨zE, zW HB.out⟩
     ·obtain rfl := Option.some.inj H
      have t5 := c7.out
      have t6 := c8.out
      obtain ⟨t7, t8, t9, v0, v1, v2, v3, v4⟩ := ze4 a0.out
      obtain ⟨v5, v6, v7, v8, v9, x0, x1, x2⟩ := ze4 a1.out
      go_wp2_with (first | ((with_reducible refine zq 65 ?_); refine zg (some 20) Tryz.func65 #[.slice a8 a2.length a9, .slice b0 a3.length b1] ?_; (with_reducible refine (laws_eqNeedS.calls d0 _ _ a2 _ _ a3 false _ ?side1 ?side2 ?side3 ?side4 d8.out).mono ?_); (case side1 => exact zC (Kd.C_below d1.out HB.out)); (case side2 => exact d2.out); (case side3 => exact zC (Kd.C_below d3.out HB.out)); (case side4 => exact d4.out); rintro e x3 ⟨rfl, hb⟩; refine ⟨_, rfl, ?_⟩; replace a0 := zb a0 hb; replace a1 := zb a1 hb; replace HB := zh HB hb; (try clear hb)))
      go_ret
      exact ⟨zE, zW HB.out⟩
end Go.Proofs.YtpcdhoeoefoeoaaGreatDoor.PGC
