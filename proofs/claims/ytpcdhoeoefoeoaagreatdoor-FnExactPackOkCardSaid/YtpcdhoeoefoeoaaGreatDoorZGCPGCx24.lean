/- The walks of the functions that these laws reach, and what each comes to: printed by this session's program. -/
import Derived.Test.YtpcdhoeoefoeoaaGreatDoorZGCPGCx0
import Derived.Test.YtpcdhoeoefoeoaaGreatDoorZGCSays
import Derived.Test.YtpcdhoeoefoeoaaGreatDoorZGCRegs
namespace Go.Proofs.YtpcdhoeoefoeoaaGreatDoor.PGC
open Go.RowKit YtpcdhoeoefoeoaaGreatDoorW.PrintWords YtpcdhoeoefoeoaaGreatDoorW.PrintLast YtpcdhoeoefoeoaaGreatDoorW.PrintMore
attribute [local go_sem high] Mine.str_gtr Mine.str_leq Mine.str_geq
attribute [local go_sem] max2_int min2_int max_two min_two max_three min_three max_four min_four   -- for this text's walks alone
set_option linter.unusedVariables false
set_option maxHeartbeats 8000000
set_option maxRecDepth 100000
set_option linter.unusedSimpArgs false
/-! ### laws_eqStringS: function 50 -/
mutual
def laws_eqStringS.j0 : Nat → List ByteArray → List ByteArray → Option (Bool)
 | 0, _, _ => none
 | k + 1, x0, x1 => laws_eqStringS.l0 k x0 x1 0
def laws_eqStringS.l0 : Nat → List ByteArray → List ByteArray → Int → Option (Bool)
 | 0, _, _, _ => none
 | k + 1, x0, x1, x5 => if x5 < (x0.length : Int) then (if 0 ≤ x5 then (if x5 < (x1.length : Int) then (if (rdOf ByteArray.empty x0 x5).toList = (rdOf ByteArray.empty x1 x5).toList then (laws_eqStringS.l0 k x0 x1 (wrap64 (x5 + 1))) else (some false)) else (none)) else (none)) else (some true)
end
def laws_eqStringS.f (k : Nat) (l0 l1 : List ByteArray) : Option (Bool) := if (l0.length : Int) = (l1.length : Int) then (laws_eqStringS.j0 k l0 l1) else (some false)
theorem laws_eqStringS.calls (k : Nat) (A0 : Option Addr) (c0 : Nat) (l0 : List ByteArray) (A1 : Option Addr) (c1 : Nat) (l1 : List ByteArray) (r : Bool) (w : World) (b1 : Kd.C Kd.string w A0 l0.length l0) (b2 : l0.length ≤ c0) (b3 : Kd.C Kd.string w A1 l1.length l1) (b4 : l1.length ≤ c1) (h : laws_eqStringS.f k l0 l1 = some r) :
  Calls Tryz.prog 50 #[.slice A0 l0.length c0, .slice A1 l1.length c1] w fun e w' => e = .returned (.bool r) ∧ Drawn0 w w' := by
 have b5 := Aside0.mk b1
 have d2 := Aside0.mk b2
 clear b1 b2
 have b6 := Aside0.mk b3
 have d3 := Aside0.mk b4
 clear b3 b4
 unfold laws_eqStringS.f at h
 have H := h
 clear h
 have a6 := Aside0.mk H
 clear H
 go_enter Tryz.func50, Tryz.ntmps50
 go_upto_if 10 with (fail)
 repeat (go_quiet (fail); go_upto_if 10 with (fail))
 go_cut [] (fun wc => ∃ (kq : Nat), Aside0 (laws_eqStringS.j0 kq l0 l1 = some r) ∧ Aside0 (kq ≤ k) ∧ Drawn0 w wc)
 case first =>
  have H := a6.out
  clear a6
  replace H := zI1 H
  rcases H with ⟨c4, H⟩ | ⟨c4, H⟩
  ·have a1 := beq_iff_eq.mpr c4
   have a7 := bne_eq_false_iff_eq.mpr c4
   have a8 : (l0.length == l1.length) = true := by first | simpa using c4 | (simp at c4 ⊢; omega)
   clear c4
   (first | rw [a1] | (simp only [i64_w, i32_w]; rw [a1]) | skip)
   have H' := Aside0.mk H
   clear H
   go_wp2
   repeat (go_quiet (fail); try go_wp2)
   go_meet
   case rel => exact ⟨_, (by first | exact H' | (subst_vars; exact H')), ⟨by first | omega | exact Nat.le_refl _⟩, by repeat (first | exact Drawn0.refl _ | apply Drawn0.step)⟩
  ·have a1 := beq_eq_false_iff_ne.mpr c4
   have a7 := bne_iff_ne.mpr c4
   have a8 : (l0.length == l1.length) = false := by first | simpa using c4 | (simp at c4 ⊢; omega)
   (first | rw [a1] | (simp only [i64_w, i32_w]; rw [a1]) | skip)
   obtain rfl := Option.some.inj H
   go_wp2
   repeat (go_quiet (fail); try go_wp2)
   go_ret
   exact ⟨by first | rfl | (simp; done) | (simp [*]; done) | (simp; rw [Bool.eq_iff_iff]; simp; done), by repeat (first | exact Drawn0.refl _ | apply Drawn0.step)⟩
 case rest =>
  clear a6
  try clear c1
  try clear p2
  try clear c4
  try clear a1
  try clear a7
  try clear a8
  obtain ⟨kq, HA, b7, ⟨d4, rfl⟩⟩ := hcut
  cases kq with
  | zero => exact absurd HA.out (by simp [laws_eqStringS.j0])
  | succ b8 =>
   have H := HA.out
   clear HA
   simp only [laws_eqStringS.j0] at H
   have H' := Aside0.mk H
   clear H
   go_wp2
   repeat (go_quiet (fail); try go_wp2)
   go_loopg [5] b8 (fun kq v5 w' => ∃ (a0 : Int), v5 = .int .i64 a0 ∧ Aside0 (laws_eqStringS.l0 kq l0 l1 a0 = some r) ∧ Aside0 (kq ≤ b8) ∧ Drawn0 w w')
   case atStart => exact ⟨(0), zS, H', ⟨Nat.le_refl _⟩, by repeat (first | exact Drawn0.refl _ | apply Drawn0.step)⟩
   case round =>
    clear H'
    try clear c1
    try clear c2
    try clear p2
    try clear c4
    try clear a1
    try clear a7
    try clear a8
    try clear p2
    obtain ⟨a0, rfl, HA, b9, ⟨m2, rfl⟩⟩ := hrel
    cases gk with
    | zero => exact absurd HA.out (by simp [laws_eqStringS.l0])
    | succ k2 =>
     have H := HA.out
     clear HA
     simp only [laws_eqStringS.l0] at H
     replace H := zI0 H
     rcases H with ⟨c3, H⟩ | ⟨c3, H⟩
     ·replace H := zD0 H
      obtain ⟨d5, H⟩ := H
      replace H := zD0 H
      obtain ⟨d6, H⟩ := H
      replace H := zI1 H
      rcases H with ⟨c8, H⟩ | ⟨c8, H⟩
      ·have c5 := beq_iff_eq.mpr c8
       have c6 := bne_eq_false_iff_eq.mpr c8
       clear c8
       have H' := Aside0.mk H
       clear H
       have a2 : 0 ≤ (a0 : Int) := zD
       have a3 : a0 < (l0.length : Int) := zD
       obtain ⟨c7, a9, c9⟩ := Kd.at_string b5.out a0 a2 a3
       cases a9
       replace a2 := eq_true a2
       replace a3 := eq_true a3
       have a4 : 0 ≤ (a0 : Int) := zD
       have a5 : a0 < (l1.length : Int) := zD
       obtain ⟨d0, b0, d1⟩ := Kd.at_string b6.out a0 a4 a5
       cases b0
       replace a4 := eq_true a4
       replace a5 := eq_true a5
       go_wp2
       repeat (go_quiet (fail); try go_wp2)
       go_roundg k2
       case measure => have := b7.out; have := b9.out; omega
       case rel => exact ⟨(wrap64 (a0 + 1)), zS, H', ⟨by have := b7.out; have := b9.out; omega⟩, by repeat (first | exact Drawn0.refl _ | apply Drawn0.step)⟩
      ·have c5 := beq_eq_false_iff_ne.mpr c8
       have c6 := bne_iff_ne.mpr c8
       obtain rfl := Option.some.inj H
       have a2 : 0 ≤ (a0 : Int) := zD
       have a3 : a0 < (l0.length : Int) := zD
       obtain ⟨c7, a9, c9⟩ := Kd.at_string b5.out a0 a2 a3
       cases a9
       replace a2 := eq_true a2
       replace a3 := eq_true a3
       have a4 : 0 ≤ (a0 : Int) := zD
       have a5 : a0 < (l1.length : Int) := zD
       obtain ⟨d0, b0, d1⟩ := Kd.at_string b6.out a0 a4 a5
       cases b0
       replace a4 := eq_true a4
       replace a5 := eq_true a5
       go_wp2
       repeat (go_quiet (fail); try go_wp2)
       go_ret
       exact ⟨by first | rfl | (simp; done) | (simp [*]; done) | (simp; rw [Bool.eq_iff_iff]; simp; done), by repeat (first | exact Drawn0.refl _ | apply Drawn0.step)⟩
     ·obtain rfl := Option.some.inj H
      go_wp2
      repeat (go_quiet (fail); try go_wp2)
      go_ret
      exact ⟨by first | rfl | (simp; done) | (simp [*]; done) | (simp; rw [Bool.eq_iff_iff]; simp; done), by repeat (first | exact Drawn0.refl _ | apply Drawn0.step)⟩
/-! ### laws_eqNeed: function 117 -/
def laws_eqNeed.f (a0 a1 a2 a3 : ByteArray) : Option (Bool) := if a0.toList = a2.toList then (if a1.toList = a3.toList then (some true) else (some false)) else (some false)
theorem laws_eqNeed.calls (a3 a4 a5 a6 : ByteArray) (r : Bool) (w : World) (h : laws_eqNeed.f a3 a4 a5 a6 = some r) :
  Calls Tryz.prog 117 #[.agg #[.string a3, .string a4], .agg #[.string a5, .string a6]] w fun e w' => e = .returned (.bool r) ∧ Below w.heap.size w w' := by
 have b2 := Tryz.underlying30
 have HB := zA (Below.refl w.heap.size w)
 unfold laws_eqNeed.f at h
 have H := h
 clear h
 go_enter Tryz.func117, Tryz.ntmps117
 go_upto_if 9 with (first | ((with_reducible refine zd 2 ?_); refine ze 2 30 #[.string a3, .string a4] ?_; intro b3 hg w5 hbox hb; have a0 := zA (hbox); have b4 := zi HB hg; have b5 := zi HB hg; replace HB := zA (below_step (zB) hb); clear hb hbox hg) | ((with_reducible refine zd 3 ?_); refine ze 3 30 #[.string a5, .string a6] ?_; intro b6 hg w6 hbox hb; have a9 := zA (hbox); have b7 := zi HB hg; have b8 := zi HB hg; replace HB := zh HB hb; have b0 := zA (zL hg (zK a0.out)); have b1 := zA (zJ hg (zK a0.out)); replace a0 := zb a0 hb; clear hb hbox hg; have b9 := b0.out; have c0 := b1.out; obtain ⟨c1, c2, c5, c6⟩ := ze2 a0.out; obtain ⟨c7, c8, c9, d0⟩ := ze2 a9.out))
 (try simp only [Act.put, zT])
 replace H := zI1 H
 rcases H with ⟨c3, H⟩ | ⟨c3, H⟩
 ·have a1 := beq_iff_eq.mpr c3
  have a2 := bne_eq_false_iff_eq.mpr c3
  clear c3
  replace H := zI1 H
  rcases H with ⟨c4, H⟩ | ⟨c4, H⟩
  ·have a7 := beq_iff_eq.mpr c4
   have a8 := bne_eq_false_iff_eq.mpr c4
   clear c4
   obtain rfl := Option.some.inj H
   (try simp only [a1, a2, a7, a8])
   go_wp2
   go_ret
   exact ⟨zE, zW HB.out⟩
  ·have a7 := beq_eq_false_iff_ne.mpr c4
   have a8 := bne_iff_ne.mpr c4
   obtain rfl := Option.some.inj H
   (try simp only [a1, a2, a7, a8])
   go_wp2
   go_ret
   exact ⟨zE, zW HB.out⟩
 ·have a1 := beq_eq_false_iff_ne.mpr c3
  have a2 := bne_iff_ne.mpr c3
  obtain rfl := Option.some.inj H
  (try simp only [a1, a2])
  go_wp2
  go_ret
  exact ⟨zE, zW HB.out⟩
/-! ### laws_eqNeedS: function 65 -/
mutual
def laws_eqNeedS.j0 : Nat → List (S30) → List (S30) → Option (Bool)
 | 0, _, _ => none
 | k + 1, x0, x1 => laws_eqNeedS.l0 k x0 x1 0
def laws_eqNeedS.l0 : Nat → List (S30) → List (S30) → Int → Option (Bool)
 | 0, _, _, _ => none
 | k + 1, x0, x1, x5 => if x5 < (x0.length : Int) then (if 0 ≤ x5 then (if x5 < (x1.length : Int) then ((laws_eqNeed.f ((rd_T30 x0 x5).f0) ((rd_T30 x0 x5).f1) ((rd_T30 x1 x5).f0) ((rd_T30 x1 x5).f1)).bind fun a0 => (if a0 = true then (laws_eqNeedS.l0 k x0 x1 (wrap64 (x5 + 1))) else (some false))) else (none)) else (none)) else (some true)
end
def laws_eqNeedS.f (k : Nat) (l0 : List (S30)) (l1 : List (S30)) : Option (Bool) := if (l0.length : Int) = (l1.length : Int) then (laws_eqNeedS.j0 k l0 l1) else (some false)
def laws_eqNeedS.T6 : Bool × List (List Nat × List Nat) := (true, [([], []), ([], []), ([0, 1], [0, 1]), ([2], [2]), ([], []), ([], []), ([4, 5], [4, 5]), ([6], [6]), ([3, 7], [3, 7]), ([8], [8])])
def laws_eqNeedS.B6 : List Nat := [0, 0, 3, 7, 0, 0, 48, 112, 255, 511]
theorem laws_eqNeedS.tab6 : rtab .any (opsOf Tryz.f65 6) = laws_eqNeedS.T6 := by kernel_rfl
theorem laws_eqNeedS.bits6 : waitsOk laws_eqNeedS.T6.2 laws_eqNeedS.B6 = true := by kernel_rfl
theorem laws_eqNeedS.calls (k : Nat) (A0 : Option Addr) (c0 : Nat) (l0 : List (S30)) (A1 : Option Addr) (c1 : Nat) (l1 : List (S30)) (r : Bool) (w : World) (c3 : Kd.C k30 w A0 l0.length l0) (c5 : l0.length ≤ c0) (c6 : Kd.C k30 w A1 l1.length l1) (c7 : l1.length ≤ c1) (h : laws_eqNeedS.f k l0 l1 = some r) :
  Calls Tryz.prog 65 #[.slice A0 l0.length c0, .slice A1 l1.length c1] w fun e w' => e = .returned (.bool r) ∧ Below w.heap.size w w' := by
 have d4 := Tryz.underlying30
 have c8 := Aside0.mk c3
 have d5 := Aside0.mk c5
 clear c3 c5
 have c9 := Aside0.mk c6
 have d6 := Aside0.mk c7
 clear c6 c7
 have HB := zA (Below.refl w.heap.size w)
 unfold laws_eqNeedS.f at h
 have H := h
 clear h
 have b6 := Aside0.mk H
 clear H
 go_enter Tryz.func65, Tryz.ntmps65
 go_upto_if 10 with (fail)
 go_cut [] (fun wc => ∃ (kq : Nat), Aside0 (laws_eqNeedS.j0 kq l0 l1 = some r) ∧ Aside0 (kq ≤ k) ∧ Aside0 (Below w.heap.size w wc))
 case first =>
  have H := b6.out
  clear b6
  replace H := zI1 H
  rcases H with ⟨c4, H⟩ | ⟨c4, H⟩
  ·have a9 := beq_iff_eq.mpr c4
   have b7 := bne_eq_false_iff_eq.mpr c4
   have b8 : (l0.length == l1.length) = true := by first | simpa using c4 | (simp at c4 ⊢; omega)
   clear c4
   (first | rw [a9] | (simp only [i64_w, i32_w]; rw [a9]) | skip)
   have H' := Aside0.mk H
   clear H
   go_wp2
   go_meet
   case rel => exact ⟨_, (by first | exact H' | (subst_vars; exact H')), ⟨by first | omega | exact Nat.le_refl _⟩, ⟨zB⟩⟩
  ·have a9 := beq_eq_false_iff_ne.mpr c4
   have b7 := bne_iff_ne.mpr c4
   have b8 : (l0.length == l1.length) = false := by first | simpa using c4 | (simp at c4 ⊢; omega)
   (first | rw [a9] | (simp only [i64_w, i32_w]; rw [a9]) | skip)
   obtain rfl := Option.some.inj H
   go_wp2
   go_ret
   exact ⟨zE, zB⟩
 case rest =>
  clear b6
  try clear c1
  try clear p2
  try clear c4
  try clear a9
  try clear b7
  try clear b8
  obtain ⟨kq, HA, d0, HB⟩ := hcut
  cases kq with
  | zero => exact absurd HA.out (by simp [laws_eqNeedS.j0])
  | succ d1 =>
   have H := HA.out
   clear HA
   simp only [laws_eqNeedS.j0] at H
   have H' := Aside0.mk H
   clear H
   go_wp2
   go_loopg [5] d1 (fun kq v5 w' => ∃ (a0 : Int), v5 = .int .i64 a0 ∧ Aside0 (laws_eqNeedS.l0 kq l0 l1 a0 = some r) ∧ Aside0 (kq ≤ d1) ∧ Aside0 (Below w.heap.size w w'))
   case atStart => exact ⟨(0), zS, H', ⟨Nat.le_refl _⟩, ⟨zB⟩⟩
   case round =>
    clear H'
    try clear c1
    try clear p2
    try clear c4
    try clear a9
    try clear b7
    try clear b8
    try clear p2
    obtain ⟨a0, rfl, HA, d2, HB⟩ := hrel
    cases gk with
    | zero => exact absurd HA.out (by simp [laws_eqNeedS.l0])
    | succ k2 =>
     have H := HA.out
     clear HA
     simp only [laws_eqNeedS.l0] at H
     replace H := zI0 H
     rcases H with ⟨d3, H⟩ | ⟨d3, H⟩
     ·replace H := zD0 H
      obtain ⟨d7, H⟩ := H
      replace H := zD0 H
      obtain ⟨d8, H⟩ := H
      replace H := zj H
      obtain ⟨d9, A8, H⟩ := H
      try dsimp only at H
      replace H := zB0 H
      rcases H with ⟨rfl, H⟩ | ⟨rfl, H⟩
      ·have H' := Aside0.mk H
       clear H
       try go_wp2
       replace HB := zA (below_drew1 HB.out)
       have b0 : 0 ≤ (a0 : Int) := zD
       have b1 : a0 < (l0.length : Int) := zD
       obtain ⟨b2, b9, a1, a2⟩ := at_T30 c8.out a0 b0 b1
       have a3 := a2
       have a4 := a1
       cases b9
       replace a1 := zx HB a1
       replace a2 := zx HB a2
       replace b0 := eq_true b0
       replace b1 := eq_true b1
       have b3 : 0 ≤ (a0 : Int) := zD
       have b4 : a0 < (l1.length : Int) := zD
       obtain ⟨b5, c2, a5, a6⟩ := at_T30 c9.out a0 b3 b4
       have a7 := a6
       have a8 := a5
       cases c2
       replace a5 := zx HB a5
       replace a6 := zx HB a6
       replace b3 := eq_true b3
       replace b4 := eq_true b4
       refine start_ (n := 10) (S := fun w' => w'.cell? (b2.add ((a0).toNat * 2)) = some (.string ((rd_T30 l0 a0).f0)) ∧ w'.cell? ⟨(b2.add ((a0).toNat * 2)).block, (b2.add ((a0).toNat * 2)).off + 1, none⟩ = some (.string ((rd_T30 l0 a0).f1)) ∧ w'.cell? (b5.add ((a0).toNat * 2)) = some (.string ((rd_T30 l1 a0).f0)) ∧ w'.cell? ⟨(b5.add ((a0).toNat * 2)).block, (b5.add ((a0).toNat * 2)).off + 1, none⟩ = some (.string ((rd_T30 l1 a0).f1))) (ds := []) (Array.replicate 10 false) (by kernel_rfl) rfl rfl ⟨((HB.out.cell (World.block_lt_of_cell? w _ a4)).trans a4), ((HB.out.cell (World.block_lt_of_cell? w _ a3)).trans a3), ((HB.out.cell (World.block_lt_of_cell? w _ a8)).trans a8), ((HB.out.cell (World.block_lt_of_cell? w _ a7)).trans a7)⟩ (fun hHeld => ?_); refine with_tabW laws_eqNeedS.tab6 laws_eqNeedS.bits6 (fun HT_ HW_ => ?_)
       generalize wr.drew = e0 at HB a1 a2 a5 a6 hHeld ⊢
       refine zp 0 17 ?_
       refine zp 1 18 ?_
       refine zp 2 19 ?_
       refine zp 4 21 ?_
       refine zp 5 22 ?_
       refine zp 6 23 ?_
       refine zt 3 20 ?_
       refine zt 7 24 ?_
       refine zo 8 (some 25) fun K hK => ?_
       refine goes_ Tryz.func117 (by kernel_rfl) rfl #[.agg #[.string ((rd_T30 l0 a0).f0), .string ((rd_T30 l0 a0).f1)], .agg #[.string ((rd_T30 l1 a0).f0), .string ((rd_T30 l1 a0).f1)]] (by rfl) rfl rfl zM ?_
       with_reducible refine (laws_eqNeed.calls ((rd_T30 l0 a0).f0) ((rd_T30 l0 a0).f1) ((rd_T30 l1 a0).f0) ((rd_T30 l1 a0).f1) true _ A8.out).mono ?_
       rintro e e1 ⟨rfl, hb⟩
       refine ⟨_, rfl, ?_⟩
       replace HB := zA (below_step (zB) hb)
       (try clear hb)
       refine hK.out _ _ ⟨((HB.out.cell (World.block_lt_of_cell? w _ a4)).trans a4), ((HB.out.cell (World.block_lt_of_cell? w _ a3)).trans a3), ((HB.out.cell (World.block_lt_of_cell? w _ a8)).trans a8), ((HB.out.cell (World.block_lt_of_cell? w _ a7)).trans a7)⟩ (fun hHeld => ?_)
       clear hK K
       refine zn ?_
       refine zp 9 26 ?_
       refine done_ (done_of HT_.out (by kernel_rfl)) ?_
       try go_wp2
       go_roundg k2
       case measure => have := d0.out; have := d2.out; omega
       case rel => exact ⟨(wrap64 (a0 + 1)), zS, H', ⟨by have := d0.out; have := d2.out; omega⟩, ⟨zB⟩⟩
      ·obtain rfl := Option.some.inj H
       try go_wp2
       replace HB := zA (below_drew1 HB.out)
       have b0 : 0 ≤ (a0 : Int) := zD
       have b1 : a0 < (l0.length : Int) := zD
       obtain ⟨b2, b9, a1, a2⟩ := at_T30 c8.out a0 b0 b1
       have a3 := a2
       have a4 := a1
       cases b9
       replace a1 := zx HB a1
       replace a2 := zx HB a2
       replace b0 := eq_true b0
       replace b1 := eq_true b1
       have b3 : 0 ≤ (a0 : Int) := zD
       have b4 : a0 < (l1.length : Int) := zD
       obtain ⟨b5, c2, a5, a6⟩ := at_T30 c9.out a0 b3 b4
       have a7 := a6
       have a8 := a5
       cases c2
       replace a5 := zx HB a5
       replace a6 := zx HB a6
       replace b3 := eq_true b3
       replace b4 := eq_true b4
       refine start_ (n := 10) (S := fun w' => w'.cell? (b2.add ((a0).toNat * 2)) = some (.string ((rd_T30 l0 a0).f0)) ∧ w'.cell? ⟨(b2.add ((a0).toNat * 2)).block, (b2.add ((a0).toNat * 2)).off + 1, none⟩ = some (.string ((rd_T30 l0 a0).f1)) ∧ w'.cell? (b5.add ((a0).toNat * 2)) = some (.string ((rd_T30 l1 a0).f0)) ∧ w'.cell? ⟨(b5.add ((a0).toNat * 2)).block, (b5.add ((a0).toNat * 2)).off + 1, none⟩ = some (.string ((rd_T30 l1 a0).f1))) (ds := []) (Array.replicate 10 false) (by kernel_rfl) rfl rfl ⟨((HB.out.cell (World.block_lt_of_cell? w _ a4)).trans a4), ((HB.out.cell (World.block_lt_of_cell? w _ a3)).trans a3), ((HB.out.cell (World.block_lt_of_cell? w _ a8)).trans a8), ((HB.out.cell (World.block_lt_of_cell? w _ a7)).trans a7)⟩ (fun hHeld => ?_); refine with_tabW laws_eqNeedS.tab6 laws_eqNeedS.bits6 (fun HT_ HW_ => ?_)
       generalize wr.drew = e2 at HB a1 a2 a5 a6 hHeld ⊢
       refine zp 0 17 ?_
       refine zp 1 18 ?_
       refine zp 2 19 ?_
       refine zp 4 21 ?_
       refine zp 5 22 ?_
       refine zp 6 23 ?_
       refine zt 3 20 ?_
       refine zt 7 24 ?_
       refine zo 8 (some 25) fun K hK => ?_
       refine goes_ Tryz.func117 (by kernel_rfl) rfl #[.agg #[.string ((rd_T30 l0 a0).f0), .string ((rd_T30 l0 a0).f1)], .agg #[.string ((rd_T30 l1 a0).f0), .string ((rd_T30 l1 a0).f1)]] (by rfl) rfl rfl zM ?_
       with_reducible refine (laws_eqNeed.calls ((rd_T30 l0 a0).f0) ((rd_T30 l0 a0).f1) ((rd_T30 l1 a0).f0) ((rd_T30 l1 a0).f1) false _ A8.out).mono ?_
       rintro e e3 ⟨rfl, hb⟩
       refine ⟨_, rfl, ?_⟩
       replace HB := zA (below_step (zB) hb)
       (try clear hb)
       refine hK.out _ _ ⟨((HB.out.cell (World.block_lt_of_cell? w _ a4)).trans a4), ((HB.out.cell (World.block_lt_of_cell? w _ a3)).trans a3), ((HB.out.cell (World.block_lt_of_cell? w _ a8)).trans a8), ((HB.out.cell (World.block_lt_of_cell? w _ a7)).trans a7)⟩ (fun hHeld => ?_)
       clear hK K
       refine zn ?_
       refine zp 9 26 ?_
       refine done_ (done_of HT_.out (by kernel_rfl)) ?_
       try go_wp2
       go_ret
       exact ⟨zE, zB⟩
     ·obtain rfl := Option.some.inj H
      go_wp2
      go_ret
      exact ⟨zE, zB⟩
/-! ### laws_eqCmd: function 118 -/
def laws_eqCmd.f (k : Nat) (a0 : ByteArray) (a1 : List ByteArray) (a2 : ByteArray) (a3 : List ByteArray) : Option (Bool) := if a0.toList = a2.toList then ((laws_eqStringS.f k a1 a3).bind fun a4 => (if a4 = true then (some true) else (some false))) else (some false)
theorem laws_eqCmd.calls (k : Nat) (a9 : ByteArray) (a2 : Option Addr) (a3 : Nat) (a0 : List ByteArray) (b0 : ByteArray) (a4 : Option Addr) (a5 : Nat) (a1 : List ByteArray) (r : Bool) (w : World) (b1 : Kd.C Kd.string w a2 a0.length a0) (b2 : a0.length ≤ a3) (b3 : Kd.C Kd.string w a4 a1.length a1) (b4 : a1.length ≤ a5) (h : laws_eqCmd.f k a9 a0 b0 a1 = some r) :
  Calls Tryz.prog 118 #[.agg #[.string a9, .slice a2 a0.length a3], .agg #[.string b0, .slice a4 a1.length a5]] w fun e w' => e = .returned (.bool r) ∧ Below w.heap.size w w' := by
 have c2 := Tryz.underlying93
 have b5 := Aside0.mk b1
 have b6 := Aside0.mk b2
 clear b1 b2
 have b7 := Aside0.mk b3
 have b8 := Aside0.mk b4
 clear b3 b4
 have HB := zA (Below.refl w.heap.size w)
 unfold laws_eqCmd.f at h
 have H := h
 clear h
 go_enter Tryz.func118, Tryz.ntmps118
 go_upto_if 9 with (first | ((with_reducible refine zd 2 ?_); refine ze 2 93 #[.string a9, .slice a2 a0.length a3] ?_; intro c4 hg w6 hbox hb; have a6 := zA (hbox); have c5 := zi HB hg; have c6 := zi HB hg; replace HB := zA (below_step (zB) hb); clear hb hbox hg) | ((with_reducible refine zd 3 ?_); refine ze 3 93 #[.string b0, .slice a4 a1.length a5] ?_; intro c7 hg w7 hbox hb; have b9 := zA (hbox); have c8 := zi HB hg; have c9 := zi HB hg; replace HB := zh HB hb; have c0 := zA (zL hg (zK a6.out)); have c1 := zA (zJ hg (zK a6.out)); replace a6 := zb a6 hb; clear hb hbox hg; have d0 := c0.out; have d1 := c1.out; obtain ⟨d2, d3, d4, d5⟩ := ze2 a6.out; obtain ⟨d6, d7, d8, d9⟩ := ze2 b9.out))
 (try simp only [Act.put, zT])
 replace H := zI1 H
 rcases H with ⟨c3, H⟩ | ⟨c3, H⟩
 ·have a7 := beq_iff_eq.mpr c3
  have a8 := bne_eq_false_iff_eq.mpr c3
  clear c3
  replace H := zj H
  obtain ⟨e0, A4, H⟩ := H
  try dsimp only at H
  replace H := zB0 H
  rcases H with ⟨rfl, H⟩ | ⟨rfl, H⟩
  ·obtain rfl := Option.some.inj H
   (try simp only [a7, a8])
   go_wp2_with (first | ((with_reducible refine zq 50 ?_); refine zg (some 14) Tryz.func50 #[.slice a2 a0.length a3, .slice a4 a1.length a5] ?_; (with_reducible refine (laws_eqStringS.calls k _ _ a0 _ _ a1 true _ ?side1 ?side2 ?side3 ?side4 A4.out).mono ?_); (case side1 => exact zC (Kd.C_below b5.out HB.out)); (case side2 => exact b6.out); (case side3 => exact zC (Kd.C_below b7.out HB.out)); (case side4 => exact b8.out); rintro e w' ⟨rfl, ⟨nd, rfl⟩⟩; refine ⟨_, rfl, ?_⟩))
   go_ret
   exact ⟨zE, zW HB.out⟩
  ·obtain rfl := Option.some.inj H
   (try simp only [a7, a8])
   go_wp2_with (first | ((with_reducible refine zq 50 ?_); refine zg (some 14) Tryz.func50 #[.slice a2 a0.length a3, .slice a4 a1.length a5] ?_; (with_reducible refine (laws_eqStringS.calls k _ _ a0 _ _ a1 false _ ?side1 ?side2 ?side3 ?side4 A4.out).mono ?_); (case side1 => exact zC (Kd.C_below b5.out HB.out)); (case side2 => exact b6.out); (case side3 => exact zC (Kd.C_below b7.out HB.out)); (case side4 => exact b8.out); rintro e w' ⟨rfl, ⟨nd, rfl⟩⟩; refine ⟨_, rfl, ?_⟩))
   go_ret
   exact ⟨zE, zW HB.out⟩
 ·have a7 := beq_eq_false_iff_ne.mpr c3
  have a8 := bne_iff_ne.mpr c3
  obtain rfl := Option.some.inj H
  (try simp only [a7, a8])
  go_wp2
  go_ret
  exact ⟨zE, zW HB.out⟩
end Go.Proofs.YtpcdhoeoefoeoaaGreatDoor.PGC
