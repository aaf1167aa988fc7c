/- The walks of the functions that these laws reach, and what each comes to: printed by this session's program. -/
import Derived.Test.YtbaeljcnbkeipaaDoorZGCPGCx0
import Derived.Test.YtbaeljcnbkeipaaDoorZGCPGCx4
import Derived.Test.YtbaeljcnbkeipaaDoorZGCSays
import Derived.Test.YtbaeljcnbkeipaaDoorZGCRegs
import Derived.Test.YtbaeljcnbkeipaaDoorZGCPGCx1
namespace Go.Proofs.YtbaeljcnbkeipaaDoor.PGC
open Go.RowKit YtbaeljcnbkeipaaDoorW.PrintWords YtbaeljcnbkeipaaDoorW.PrintLast YtbaeljcnbkeipaaDoorW.PrintMore
attribute [local go_sem high] Mine.str_gtr Mine.str_leq Mine.str_geq
attribute [local go_sem] max2_int min2_int max_two min_two max_three min_three max_four min_four   -- for this text's walks alone
set_option linter.unusedVariables false
set_option maxHeartbeats 8000000
set_option maxRecDepth 100000
set_option linter.unusedSimpArgs false
/-! ### laws_heldFileS: function 16 -/
mutual
def laws_heldFileS.l0 : Nat → List (S31) → Int → Int → Option (Int)
 | 0, _, _, _ => none
 | k + 1, x0, x1, x5 => if x5 < (x0.length : Int) then (laws_heldFileS.j1 k x0 x1 x5) else (some x1)
def laws_heldFileS.j1 : Nat → List (S31) → Int → Int → Option (Int)
 | 0, _, _, _ => none
 | k + 1, x0, x1, x5 => if 0 ≤ x5 then (if x5 < (x0.length : Int) then ((laws_markText.f k x1).bind fun a0 => (if ((rd_T31 x0 x5).f0).toList = a0.toList then ((laws_markText.f k (wrap64 (x1 + 1))).bind fun a1 => (if ((rd_T31 x0 x5).f1).toList = a1.toList then (laws_heldFileS.l0 k x0 (wrap64 ((wrap64 (x1 + 1)) + 1)) (wrap64 (x5 + 1))) else (some (-1)))) else (some (-1)))) else (none)) else (none)
end
def laws_heldFileS.f (k : Nat) (l0 : List (S31)) (a1 : Int) : Option (Int) := laws_heldFileS.l0 k l0 a1 0
def laws_heldFileS.T4 : Bool × List (List Nat × List Nat) := (true, [([], []), ([], []), ([0, 1], [0, 1]), ([2], [2]), ([3], [3]), ([], []), ([5], [5]), ([4, 6], [4, 6])])
def laws_heldFileS.B4 : List Nat := [0, 0, 3, 7, 15, 0, 32, 127]
theorem laws_heldFileS.tab4 : rtab .any (opsOf Tryd.f16 4) = laws_heldFileS.T4 := by kernel_rfl
theorem laws_heldFileS.bits4 : waitsOk laws_heldFileS.T4.2 laws_heldFileS.B4 = true := by kernel_rfl
def laws_heldFileS.T7 : Bool × List (List Nat × List Nat) := (true, [([], []), ([], []), ([0, 1], [0, 1]), ([2], [2]), ([3], [3]), ([], []), ([5], [5]), ([4, 6], [4, 6])])
def laws_heldFileS.B7 : List Nat := [0, 0, 3, 7, 15, 0, 32, 127]
theorem laws_heldFileS.tab7 : rtab .any (opsOf Tryd.f16 7) = laws_heldFileS.T7 := by kernel_rfl
theorem laws_heldFileS.bits7 : waitsOk laws_heldFileS.T7.2 laws_heldFileS.B7 = true := by kernel_rfl
theorem laws_heldFileS.calls (k : Nat) (A0 : Option Addr) (c0 : Nat) (l0 : List (S31)) (a1 r : Int) (w : World) (c5 : Kd.C k31 w A0 l0.length l0) (c6 : l0.length ≤ c0) (h : laws_heldFileS.f k l0 a1 = some r) :
  Calls Tryd.prog 16 #[.slice A0 l0.length c0, .int .i64 a1] w fun e w' => e = .returned (.int .i64 r) ∧ Below w.heap.size w w' := by
 have b5 := zA c5
 have e2 := zA c6
 clear c5 c6
 have HB := zA (Below.refl w.heap.size w)
 unfold laws_heldFileS.f at h
 have H := h
 clear h
 have H' := zA H
 clear H
 go_enter Tryd.func16, Tryd.ntmps16
 go_wp2
 go_loopg [1, 5] k (fun kq v1 v5 w' => ∃ (a3 : Int) (a0 : Int), v1 = .int .i64 a3 ∧ v5 = .int .i64 a0 ∧ Aside0 (laws_heldFileS.l0 kq l0 a3 a0 = some r) ∧ Aside0 (kq ≤ k) ∧ Aside0 (Below w.heap.size w w'))
 case atStart => exact ⟨(a1), (0), zS, zS, H', ⟨Nat.le_refl _⟩, ⟨zB⟩⟩
 case round =>
  clear H'
  try clear c1
  try clear p2
  obtain ⟨a3, a0, rfl, rfl, HA, b7, HB⟩ := hrel
  cases gk with
  | zero => exact absurd HA.out (by simp [laws_heldFileS.l0])
  | succ k1 =>
   have H := HA.out; clear HA; simp only [laws_heldFileS.l0] at H; have b8 := zA H; clear H
   go_upto_if 9 with (fail)
   go_cut [] (fun wc => ∃ (kq : Nat), Aside0 (laws_heldFileS.j1 kq l0 a3 a0 = some r) ∧ Aside0 (kq ≤ k1) ∧ Aside0 (Below w.heap.size w wc))
   case first =>
    have H := b8.out; clear b8; replace H := zI0 H
    rcases H with ⟨b2, H⟩ | ⟨b2, H⟩
    ·(first | rw [b2] | (simp only [i64_w, i32_w]; rw [b2]) | skip)
     have H' := zA H; clear H
     go_wp2
     go_meet
     case rel => exact ⟨_, (by first | exact H' | (subst_vars; exact H')), ⟨by have := b7.out; first | omega | exact Nat.le_refl _⟩, ⟨zB⟩⟩
    (first | rw [b2] | (simp only [i64_w, i32_w]; rw [b2]) | skip)
    obtain rfl := zm H
    go_wp2
    go_ret
    exact ⟨zE, zB⟩
   case rest =>
    clear b8
    try clear c1
    try clear p2
    try clear c4
    try clear b2
    try clear p2
    obtain ⟨kq, HA, c7, HB⟩ := hcut
    cases kq with
    | zero => exact absurd HA.out (by simp [laws_heldFileS.j1])
    | succ b3 =>
     have H := HA.out; clear HA; simp only [laws_heldFileS.j1] at H; replace H := zD0 H; obtain ⟨e3, H⟩ := H; replace H := zD0 H; obtain ⟨e4, H⟩ := H; replace H := Option.bind_eq_some_iff.mp H; obtain ⟨b9, c9, H⟩ := H
     try dsimp only at H
     have A7 := zA c9; clear c9; replace H := zI1 H
     rcases H with ⟨c8, H⟩ | ⟨c8, H⟩
     ·have d4 := beq_iff_eq.mpr c8; have d5 := bne_eq_false_iff_eq.mpr c8; clear c8; replace H := Option.bind_eq_some_iff.mp H; obtain ⟨d0, d1, H⟩ := H
      try dsimp only at H
      have A9 := zA d1; clear d1; replace H := zI1 H
      rcases H with ⟨b4, H⟩ | ⟨b4, H⟩
      ·have d6 := beq_iff_eq.mpr b4; have d7 := bne_eq_false_iff_eq.mpr b4; clear b4; have H' := zA H; clear H
       try go_wp2
       replace HB := zA (below_drew1 HB.out); have a6 : 0 ≤ (a0 : Int) := zD; have a7 : a0 < (l0.length : Int) := zD; obtain ⟨a2, b6, a4, a5⟩ := at_T31 b5.out a0 a6 a7; have d2 := a5; have d3 := a4; cases b6; replace a4 := zx HB a4; replace a5 := zx HB a5; replace a6 := eq_true a6; replace a7 := eq_true a7
       refine start_ (n := 8) (S := fun w' => w'.cell? (a2.add ((a0).toNat * 2)) = some (.string ((rd_T31 l0 a0).f0)) ∧ w'.cell? ⟨(a2.add ((a0).toNat * 2)).block, (a2.add ((a0).toNat * 2)).off + 1, none⟩ = some (.string ((rd_T31 l0 a0).f1))) (ds := []) (Array.replicate 8 false) (by kernel_rfl) rfl rfl zO fun hHeld => ?_; refine with_tabW laws_heldFileS.tab4 laws_heldFileS.bits4 (fun HT_ HW_ => ?_)
       generalize wc.drew = e5 at HB a4 a5 hHeld ⊢; refine zp 0 12 ?_; refine zp 1 13 ?_; refine zp 2 14 ?_; refine zp 3 15 ?_; refine zp 5 17 ?_; refine zt 4 16 ?_
       refine zo 6 (some 18) fun K hK => ?_
       refine goes_ Tryd.func63 (by kernel_rfl) rfl #[.int .i64 a3] (by rfl) rfl rfl zM ?_
       with_reducible refine (laws_markText.calls b3 a3 b9 _ A7.out).mono ?_
       rintro e d8 ⟨rfl, hb⟩
       refine ⟨_, rfl, ?_⟩
       replace HB := zA (below_step (zB) hb)
       (try clear hb)
       refine hK.out _ _ zO fun hHeld => ?_
       clear hK K; refine zn ?_; refine zp 7 19 ?_
       refine done_ (done_of HT_.out (by kernel_rfl)) ?_
       try go_wp2
       replace HB := zA (below_drew1 HB.out); have b0 : 0 ≤ (a0 : Int) := zD; have b1 : a0 < (l0.length : Int) := zD; obtain ⟨c2, c3, a8, a9⟩ := at_T31 b5.out a0 b0 b1; have d9 := a9; have e0 := a8; obtain rfl : a2 = c2 := (by injection c3); replace a8 := zx HB a8; replace a9 := zx HB a9; replace b0 := eq_true b0; replace b1 := eq_true b1
       refine start_ (n := 8) (S := fun w' => w'.cell? (a2.add ((a0).toNat * 2)) = some (.string ((rd_T31 l0 a0).f0)) ∧ w'.cell? ⟨(a2.add ((a0).toNat * 2)).block, (a2.add ((a0).toNat * 2)).off + 1, none⟩ = some (.string ((rd_T31 l0 a0).f1))) (ds := []) (Array.replicate 8 false) (by kernel_rfl) rfl rfl zO fun hHeld => ?_; refine with_tabW laws_heldFileS.tab7 laws_heldFileS.bits7 (fun HT_ HW_ => ?_)
       generalize d8.drew = e6 at HB a8 a9 hHeld ⊢; refine zp 0 22 ?_; refine zp 1 23 ?_; refine zp 2 24 ?_; refine zp 3 25 ?_; refine zp 5 27 ?_; refine zt 4 26 ?_
       refine zo 6 (some 28) fun K hK => ?_
       refine goes_ Tryd.func63 (by kernel_rfl) rfl #[.int .i64 (wrap64 (a3 + 1))] (by rfl) rfl rfl zM ?_
       with_reducible refine (laws_markText.calls b3 (wrap64 (a3 + 1)) d0 _ A9.out).mono ?_
       rintro e e7 ⟨rfl, hb⟩
       refine ⟨_, rfl, ?_⟩
       replace HB := zA (below_step (zB) hb)
       (try clear hb)
       refine hK.out _ _ zO fun hHeld => ?_
       clear hK K; refine zn ?_; refine zp 7 29 ?_
       refine done_ (done_of HT_.out (by kernel_rfl)) ?_
       try go_wp2
       go_roundg b3
       case measure => have := b7.out; have := c7.out; omega
       case rel => exact ⟨(wrap64 ((wrap64 (a3 + 1)) + 1)), (wrap64 (a0 + 1)), zS, zS, H', ⟨by have := b7.out; have := c7.out; omega⟩, ⟨zB⟩⟩
      have d6 := beq_eq_false_iff_ne.mpr b4; have d7 := bne_iff_ne.mpr b4; obtain rfl := zm H
      try go_wp2
      replace HB := zA (below_drew1 HB.out); have a6 : 0 ≤ (a0 : Int) := zD; have a7 : a0 < (l0.length : Int) := zD; obtain ⟨a2, b6, a4, a5⟩ := at_T31 b5.out a0 a6 a7; have d2 := a5; have d3 := a4; cases b6; replace a4 := zx HB a4; replace a5 := zx HB a5; replace a6 := eq_true a6; replace a7 := eq_true a7
      refine start_ (n := 8) (S := fun w' => w'.cell? (a2.add ((a0).toNat * 2)) = some (.string ((rd_T31 l0 a0).f0)) ∧ w'.cell? ⟨(a2.add ((a0).toNat * 2)).block, (a2.add ((a0).toNat * 2)).off + 1, none⟩ = some (.string ((rd_T31 l0 a0).f1))) (ds := []) (Array.replicate 8 false) (by kernel_rfl) rfl rfl zO fun hHeld => ?_; refine with_tabW laws_heldFileS.tab4 laws_heldFileS.bits4 (fun HT_ HW_ => ?_)
      generalize wc.drew = e8 at HB a4 a5 hHeld ⊢; refine zp 0 12 ?_; refine zp 1 13 ?_; refine zp 2 14 ?_; refine zp 3 15 ?_; refine zp 5 17 ?_; refine zt 4 16 ?_
      refine zo 6 (some 18) fun K hK => ?_
      refine goes_ Tryd.func63 (by kernel_rfl) rfl #[.int .i64 a3] (by rfl) rfl rfl zM ?_
      with_reducible refine (laws_markText.calls b3 a3 b9 _ A7.out).mono ?_
      rintro e e1 ⟨rfl, hb⟩
      refine ⟨_, rfl, ?_⟩
      replace HB := zA (below_step (zB) hb)
      (try clear hb)
      refine hK.out _ _ zO fun hHeld => ?_
      clear hK K; refine zn ?_; refine zp 7 19 ?_
      refine done_ (done_of HT_.out (by kernel_rfl)) ?_
      try go_wp2
      replace HB := zA (below_drew1 HB.out); have b0 : 0 ≤ (a0 : Int) := zD; have b1 : a0 < (l0.length : Int) := zD; obtain ⟨c2, c3, a8, a9⟩ := at_T31 b5.out a0 b0 b1; have d9 := a9; have e0 := a8; obtain rfl : a2 = c2 := (by injection c3); replace a8 := zx HB a8; replace a9 := zx HB a9; replace b0 := eq_true b0; replace b1 := eq_true b1
      refine start_ (n := 8) (S := fun w' => w'.cell? (a2.add ((a0).toNat * 2)) = some (.string ((rd_T31 l0 a0).f0)) ∧ w'.cell? ⟨(a2.add ((a0).toNat * 2)).block, (a2.add ((a0).toNat * 2)).off + 1, none⟩ = some (.string ((rd_T31 l0 a0).f1))) (ds := []) (Array.replicate 8 false) (by kernel_rfl) rfl rfl zO fun hHeld => ?_; refine with_tabW laws_heldFileS.tab7 laws_heldFileS.bits7 (fun HT_ HW_ => ?_)
      generalize e1.drew = e9 at HB a8 a9 hHeld ⊢; refine zp 0 22 ?_; refine zp 1 23 ?_; refine zp 2 24 ?_; refine zp 3 25 ?_; refine zp 5 27 ?_; refine zt 4 26 ?_
      refine zo 6 (some 28) fun K hK => ?_
      refine goes_ Tryd.func63 (by kernel_rfl) rfl #[.int .i64 (wrap64 (a3 + 1))] (by rfl) rfl rfl zM ?_
      with_reducible refine (laws_markText.calls b3 (wrap64 (a3 + 1)) d0 _ A9.out).mono ?_
      rintro e f2 ⟨rfl, hb⟩
      refine ⟨_, rfl, ?_⟩
      replace HB := zA (below_step (zB) hb)
      (try clear hb)
      refine hK.out _ _ zO fun hHeld => ?_
      clear hK K; refine zn ?_; refine zp 7 29 ?_
      refine done_ (done_of HT_.out (by kernel_rfl)) ?_
      try go_wp2
      go_ret
      exact ⟨zE, zB⟩
     have d4 := beq_eq_false_iff_ne.mpr c8; have d5 := bne_iff_ne.mpr c8; obtain rfl := zm H
     try go_wp2
     replace HB := zA (below_drew1 HB.out); have a6 : 0 ≤ (a0 : Int) := zD; have a7 : a0 < (l0.length : Int) := zD; obtain ⟨a2, b6, a4, a5⟩ := at_T31 b5.out a0 a6 a7; have d2 := a5; have d3 := a4; cases b6; replace a4 := zx HB a4; replace a5 := zx HB a5; replace a6 := eq_true a6; replace a7 := eq_true a7
     refine start_ (n := 8) (S := fun w' => w'.cell? (a2.add ((a0).toNat * 2)) = some (.string ((rd_T31 l0 a0).f0)) ∧ w'.cell? ⟨(a2.add ((a0).toNat * 2)).block, (a2.add ((a0).toNat * 2)).off + 1, none⟩ = some (.string ((rd_T31 l0 a0).f1))) (ds := []) (Array.replicate 8 false) (by kernel_rfl) rfl rfl zO fun hHeld => ?_; refine with_tabW laws_heldFileS.tab4 laws_heldFileS.bits4 (fun HT_ HW_ => ?_)
     generalize wc.drew = f3 at HB a4 a5 hHeld ⊢; refine zp 0 12 ?_; refine zp 1 13 ?_; refine zp 2 14 ?_; refine zp 3 15 ?_; refine zp 5 17 ?_; refine zt 4 16 ?_
     refine zo 6 (some 18) fun K hK => ?_
     refine goes_ Tryd.func63 (by kernel_rfl) rfl #[.int .i64 a3] (by rfl) rfl rfl zM ?_
     with_reducible refine (laws_markText.calls b3 a3 b9 _ A7.out).mono ?_
     rintro e f4 ⟨rfl, hb⟩
     refine ⟨_, rfl, ?_⟩
     replace HB := zA (below_step (zB) hb)
     (try clear hb)
     refine hK.out _ _ zO fun hHeld => ?_
     clear hK K; refine zn ?_; refine zp 7 19 ?_
     refine done_ (done_of HT_.out (by kernel_rfl)) ?_
     try go_wp2
     go_ret
     exact ⟨zE, zB⟩
/-! ### laws_FnExactPutFile: function 3 -/
mutual
def laws_FnExactPutFile.j0 : Nat → List (S24) → Int → ByteArray → ByteArray → Option (Bool)
 | 0, _, _, _, _ => none
 | k + 1, x0, x5, a0, a1 => (laws_szFile.f a0 a1 x5).bind fun b4 => (if b4 < 0 then (some true) else (laws_FnExactPutFile.j1 k x0 a0 a1))
def laws_FnExactPutFile.j1 : Nat → List (S24) → ByteArray → ByteArray → Option (Bool)
 | 0, _, _, _ => none
 | k + 1, x0, a0, a1 => (laws_toFileS.f k x0).bind fun b5 => ((laws_toFile.f a0 a1).bind fun a8 => ((spec_PutFile.f k b5 a8.1 a8.2).bind fun a3 => ((laws_toFileS.f k x0).bind fun a6 => ((laws_toFile.f a0 a1).bind fun a9 => ((impl_PutFile.f k a6 a9.1 a9.2).bind fun a4 => ((laws_eqFileS.f k a4.1 a3.1).bind fun b6 => (if b6 = true then (laws_FnExactPutFile.j2 k x0 a3.1 a3.2 a6 a4.1 a4.2 (a4.2 != a3.2) a0 a1) else (laws_FnExactPutFile.j2 k x0 a3.1 a3.2 a6 a4.1 a4.2 true a0 a1))))))))
def laws_FnExactPutFile.j2 : Nat → List (S24) → List (S31) → Bool → List (S31) → List (S31) → Bool → Bool → ByteArray → ByteArray → Option (Bool)
 | 0, _, _, _, _, _, _, _, _, _ => none
 | k + 1, x0, x6, x7, x8, x9, a5, b7, a0, a1 => if b7 = true then (none) else (laws_FnExactPutFile.j3 k x0 x6 x7 x8 x9 a5 a0 a1)
def laws_FnExactPutFile.j3 : Nat → List (S24) → List (S31) → Bool → List (S31) → List (S31) → Bool → ByteArray → ByteArray → Option (Bool)
 | 0, _, _, _, _, _, _, _, _ => none
 | k + 1, x0, x6, x7, x8, x9, a5, a0, a1 => (laws_toFileS.f k x0).bind fun b8 => ((laws_eqFileS.f k x8 b8).bind fun b9 => (if b9 = true then (laws_FnExactPutFile.j4 k x0 x6 x7 x8 x9 a5 a0 a1) else (none)))
def laws_FnExactPutFile.j4 : Nat → List (S24) → List (S31) → Bool → List (S31) → List (S31) → Bool → ByteArray → ByteArray → Option (Bool)
 | 0, _, _, _, _, _, _, _, _ => none
 | k + 1, x0, x6, x7, x8, x9, a5, a0, a1 => (laws_markFileS.f k x8 1).bind fun c0 => (if c0.1 < 0 then (laws_FnExactPutFile.j5 k x0 x6 x7 x9 true a0 a1) else ((laws_eqFileS.f k x9 x6).bind fun c1 => (if c1 = true then (laws_FnExactPutFile.j5 k x0 x6 x7 x9 (a5 != x7) a0 a1) else (laws_FnExactPutFile.j5 k x0 x6 x7 x9 true a0 a1))))
def laws_FnExactPutFile.j5 : Nat → List (S24) → List (S31) → Bool → List (S31) → Bool → ByteArray → ByteArray → Option (Bool)
 | 0, _, _, _, _, _, _, _ => none
 | k + 1, x0, x6, x7, x9, c2, a0, a1 => if c2 = true then (none) else (laws_FnExactPutFile.j6 k x0 x6 x7 x9 a0 a1)
def laws_FnExactPutFile.j6 : Nat → List (S24) → List (S31) → Bool → List (S31) → ByteArray → ByteArray → Option (Bool)
 | 0, _, _, _, _, _, _ => none
 | k + 1, x0, x6, x7, x9, a0, a1 => (laws_markFileS.f k x9 1).bind fun a7 => ((laws_heldFileS.f k a7.2 1).bind fun b0 => (if b0 < 0 then (none) else (laws_FnExactPutFile.j7 k x0 x6 x7 a7.2 a7.1 b0 a0 a1)))
def laws_FnExactPutFile.j7 : Nat → List (S24) → List (S31) → Bool → List (S31) → Int → Int → ByteArray → ByteArray → Option (Bool)
 | 0, _, _, _, _, _, _, _, _ => none
 | k + 1, x0, x6, x7, x9, a2, c3, a0, a1 => if c3 = a2 then (laws_FnExactPutFile.j8 k x0 x6 x7 x9 a2 a0 a1) else (none)
def laws_FnExactPutFile.j8 : Nat → List (S24) → List (S31) → Bool → List (S31) → Int → ByteArray → ByteArray → Option (Bool)
 | 0, _, _, _, _, _, _, _ => none
 | k + 1, x0, x6, x7, x9, a2, a0, a1 => (laws_toFileS.f k x0).bind fun c4 => ((laws_toFile.f a0 a1).bind fun b1 => ((impl_PutFile.f k c4 b1.1 b1.2).bind fun b2 => ((laws_eqFileS.f k b2.1 x6).bind fun c5 => (if c5 = true then (laws_FnExactPutFile.j9 k x9 a2 (b2.2 != x7)) else (laws_FnExactPutFile.j9 k x9 a2 true)))))
def laws_FnExactPutFile.j9 : Nat → List (S31) → Int → Bool → Option (Bool)
 | 0, _, _, _ => none
 | k + 1, x9, a2, c6 => if c6 = true then (none) else (laws_FnExactPutFile.j10 k x9 a2)
def laws_FnExactPutFile.j10 : Nat → List (S31) → Int → Option (Bool)
 | 0, _, _ => none
 | k + 1, x9, a2 => (laws_heldFileS.f k x9 1).bind fun b3 => (if b3 < 0 then (none) else (if b3 = a2 then (some true) else (none)))
end
def laws_FnExactPutFile.f (k : Nat) (l0 : List (S24)) (a1 a2 : ByteArray) : Option (Bool) := (laws_szFileS.f k l0 1048576).bind fun a0 => (if a0 < 0 then (some true) else (laws_FnExactPutFile.j0 k l0 a0 a1 a2))
def laws_FnExactPutFile.T8 : Bool × List (List Nat × List Nat) := (true, [([], []), ([0], [0]), ([], []), ([2, 1], [2]), ([1, 3, 3], [1, 3]), ([4], [4]), ([5], [5]), ([5], [5]), ([6, 4, 0, 1, 2, 3, 4, 5, 6], [6]), ([7, 8, 0, 1, 2, 3, 4, 5, 6, 7, 8], [7])])
def laws_FnExactPutFile.B8 : List Nat := [0, 1, 0, 7, 15, 31, 63, 63, 127, 511]
theorem laws_FnExactPutFile.tab8 : rtab .any (opsOf Tryd.f3 8) = laws_FnExactPutFile.T8 := by kernel_rfl
theorem laws_FnExactPutFile.bits8 : waitsOk laws_FnExactPutFile.T8.2 laws_FnExactPutFile.B8 = true := by kernel_rfl
def laws_FnExactPutFile.T27 : Bool × List (List Nat × List Nat) := (true, [([], []), ([0], [0]), ([], []), ([2, 1], [2]), ([1, 3, 3], [1, 3]), ([4], [4]), ([5], [5]), ([5], [5]), ([6, 4, 0, 1, 2, 3, 4, 5, 6], [6]), ([7, 8, 0, 1, 2, 3, 4, 5, 6, 7, 8], [7])])
def laws_FnExactPutFile.B27 : List Nat := [0, 1, 0, 7, 15, 31, 63, 63, 127, 511]
theorem laws_FnExactPutFile.tab27 : rtab .any (opsOf Tryd.f3 27) = laws_FnExactPutFile.T27 := by kernel_rfl
theorem laws_FnExactPutFile.bits27 : waitsOk laws_FnExactPutFile.T27.2 laws_FnExactPutFile.B27 = true := by kernel_rfl
theorem laws_FnExactPutFile.calls (k : Nat) (A0 : Option Addr) (c0 : Nat) (l0 : List (S24)) (a4 a5 : ByteArray) (r : Bool) (w : World) (l2 : Kd.C k24 w A0 l0.length l0) (l3 : l0.length ≤ c0) (hG : GW w) (h : laws_FnExactPutFile.f k l0 a4 a5 = some r) :
  Calls Tryd.prog 3 #[.slice A0 l0.length c0, .agg #[.string a4, .string a5]] w fun e w' => e = .returned (.bool r) ∧ Below w.heap.size w w' := by
 have x8 := Tryd.underlying24
 have f7 := zA l2
 have f8 := zA l3
 clear l2 l3
 have HG := zA hG
 clear hG
 have HB := zA (Below.refl w.heap.size w)
 unfold laws_FnExactPutFile.f at h
 have H := h
 clear h
 replace H := Option.bind_eq_some_iff.mp H
 obtain ⟨g7, f9, H⟩ := H
 try dsimp only at H
 have A3 := zA f9
 clear f9
 have h0 := zA H
 clear H
 go_enter Tryd.func3, Tryd.ntmps3
 go_upto_if 20 with (first | ((with_reducible refine zd 3 ?_); refine ze 3 24 #[.string a4, .string a5] ?_; intro b7 hg w5 hbox hb; have a0 := zA (hbox); have x9 := zi HB hg; have l4 := zi HB hg; replace HB := zA (below_step (zB) hb); clear hb hbox hg) | ((with_reducible refine zq 8 ?_); refine zg (some 18) Tryd.func8 #[.slice A0 l0.length c0, .int .i64 1048576] ?_; (with_reducible refine (laws_szFileS.calls k _ _ l0 1048576 g7 _ ?s1 ?s2 A3.out).mono ?_); (case s1 => exact zC (Kd.C_below f7.out HB.out)); (case s2 => exact f8.out); rintro e w6 ⟨rfl, hb⟩; refine ⟨_, rfl, ?_⟩; replace a0 := zb a0 hb; replace HB := zh HB hb; (try clear hb)))
 (try simp only [Act.put, zT])
 go_cut [] (fun wc => ∃ (kq : Nat), Aside0 (laws_FnExactPutFile.j0 kq l0 g7 a4 a5 = some r) ∧ Aside0 (kq ≤ k) ∧ Aside0 (wc.heap[b7]? = some (.cells #[.string a4, .string a5] 24 (0, 0))) ∧ Aside0 (Below w.heap.size w wc))
 case first =>
  have H := h0.out; clear h0; replace H := zI0 H
  rcases H with ⟨b4, H⟩ | ⟨b4, H⟩
  ·(first | rw [b4] | (simp only [i64_w, i32_w]; rw [b4]) | skip)
   obtain rfl := zm H
   go_wp2
   go_ret
   exact ⟨zE, zW HB.out⟩
  (first | rw [b4] | (simp only [i64_w, i32_w]; rw [b4]) | skip)
  have H' := zA H; clear H
  go_wp2
  go_meet
  case rel => exact ⟨_, (by first | exact H' | (subst_vars; exact H')), ⟨by first | omega | exact Nat.le_refl _⟩, ⟨zK a0.out⟩, ⟨zW HB.out⟩⟩
 case rest =>
  clear h0
  try clear p2
  try clear c3
  try clear c7
  try clear b4
  obtain ⟨kq, HA, b9, a0, HB⟩ := hcut
  cases kq with
  | zero => exact absurd HA.out (by simp [laws_FnExactPutFile.j0])
  | succ o0 =>
   have H := HA.out; clear HA; simp only [laws_FnExactPutFile.j0] at H; replace H := Option.bind_eq_some_iff.mp H; obtain ⟨o1, l5, H⟩ := H
   try dsimp only at H
   have A8 := zA l5; clear l5; have h1 := zA H; clear H; obtain ⟨e0, e1, e2, e3⟩ := ze2 a0.out
   go_upto_if 25 with (first | ((with_reducible refine zq 9 ?_); refine zg (some 23) Tryd.func9 #[.agg #[.string a4, .string a5], .int .i64 g7] ?_; (with_reducible refine (laws_szFile.calls a4 a5 g7 o1 _ A8.out).mono ?_); rintro e y0 ⟨rfl, hb⟩; refine ⟨_, rfl, ?_⟩; replace a0 := zb a0 hb; replace HB := zh HB hb; (try clear hb)))
   (try simp only [Act.put, zT])
   go_cut [] (fun wc => ∃ (kq : Nat), Aside0 (laws_FnExactPutFile.j1 kq l0 a4 a5 = some r) ∧ Aside0 (kq ≤ o0) ∧ Aside0 (wc.heap[b7]? = some (.cells #[.string a4, .string a5] 24 (0, 0))) ∧ Aside0 (Below w.heap.size w wc))
   case first =>
    have H := h1.out; clear h1; replace H := zI0 H
    rcases H with ⟨b8, H⟩ | ⟨b8, H⟩
    ·(first | rw [b8] | (simp only [i64_w, i32_w]; rw [b8]) | skip)
     obtain rfl := zm H
     go_wp2
     go_ret
     exact ⟨zE, zW HB.out⟩
    (first | rw [b8] | (simp only [i64_w, i32_w]; rw [b8]) | skip)
    have H' := zA H; clear H
    go_wp2
    go_meet
    case rel => exact ⟨_, (by first | exact H' | (subst_vars; exact H')), ⟨by have := b9.out; first | omega | exact Nat.le_refl _⟩, ⟨zK a0.out⟩, ⟨zW HB.out⟩⟩
   case rest =>
    clear h1
    try clear c1
    try clear p2
    try clear c3
    try clear c7
    try clear b4
    try clear c8
    try clear c9
    try clear c12
    try clear b8
    try clear e0 e1 e2 e3
    try clear p2
    obtain ⟨kq, HA, d1, a0, HB⟩ := hcut
    cases kq with
    | zero => exact absurd HA.out (by simp [laws_FnExactPutFile.j1])
    | succ f1 =>
     have H := HA.out; clear HA; simp only [laws_FnExactPutFile.j1] at H; replace H := Option.bind_eq_some_iff.mp H; obtain ⟨h2, l6, H⟩ := H
     try dsimp only at H
     have o2 := zA l6; clear l6; replace H := Option.bind_eq_some_iff.mp H; obtain ⟨⟨h3, h4⟩, l7, H⟩ := H
     try dsimp only at H
     have o3 := zA l7; clear l7; replace H := Option.bind_eq_some_iff.mp H; obtain ⟨⟨a8, d7⟩, l8, H⟩ := H
     try dsimp only at H
     have o4 := zA l8; clear l8; replace H := Option.bind_eq_some_iff.mp H; obtain ⟨a6, l9, H⟩ := H
     try dsimp only at H
     have o5 := zA l9; clear l9; replace H := Option.bind_eq_some_iff.mp H; obtain ⟨⟨h5, h6⟩, m0, H⟩ := H
     try dsimp only at H
     have o6 := zA m0; clear m0; replace H := Option.bind_eq_some_iff.mp H; obtain ⟨⟨a7, f3⟩, m1, H⟩ := H
     try dsimp only at H
     have o7 := zA m1; clear m1; have h7 := zA H; clear H
     try go_wp2
     replace a0 := zA (blk_drew a0.out); replace HB := zA (below_drew1 HB.out)
     refine start_ (n := 10) (S := fun w' => w'.cell? ⟨b7, 0, none⟩ = some (.string a4) ∧ w'.cell? ⟨b7, 1, none⟩ = some (.string a5)) (ds := []) (Array.replicate 10 false) (by kernel_rfl) rfl rfl zO fun hHeld => ?_; refine with_tabW laws_FnExactPutFile.tab8 laws_FnExactPutFile.bits8 (fun HT_ HW_ => ?_)
     generalize wc.drew = y1 at a0 HB hHeld ⊢; refine zp 0 27 ?_; refine zt 2 29 ?_
     refine zo 1 (some 28) fun K hK => ?_
     refine goes_ Tryd.func11 (by kernel_rfl) rfl #[.slice A0 l0.length c0] (by rfl) rfl rfl zM ?_
     with_reducible refine (laws_toFileS.calls f1 _ _ l0 h2 _ ?s1 ?s2 o2.out).mono ?_
     (case s1 => exact zC (Kd.C_below f7.out HB.out))
     (case s2 => exact f8.out)
     rintro e y2 ⟨y3, rfl, a3, hb⟩
     refine ⟨_, rfl, ?_⟩
     have a9 := zA (Kd.R_lower a3 (below_size (zW HB.out))); replace a0 := zb a0 hb; replace HB := zh HB hb
     (try clear hb a3)
     refine hK.out _ _ zO fun hHeld => ?_
     clear hK K; refine zn ?_
     refine zo 3 (some 30) fun K hK => ?_
     refine goes_ Tryd.func12 (by kernel_rfl) rfl #[.agg #[.string a4, .string a5]] (by rfl) rfl rfl zM ?_
     with_reducible refine (laws_toFile.calls a4 a5 h3 h4 _ o3.out).mono ?_
     rintro e y4 ⟨rfl, hb⟩
     refine ⟨_, rfl, ?_⟩
     replace a9 := zr a9 hb; replace a0 := zb a0 hb; replace HB := zh HB hb
     (try clear hb)
     obtain ⟨o8, o9, m2⟩ := Kd.R_slice a9.out
     (first | subst m2 | (injection m2 with f1_ f2_ f3_; have h8 := f1_.symm; have h9 := f3_.symm; clear f1_ f2_ f3_; subst h8; subst h9))
     refine hK.out _ _ zO fun hHeld => ?_
     clear hK K; refine zn ?_
     refine zo 4 (some 31) fun K hK => ?_
     refine goes_ Tryd.func10 (by kernel_rfl) rfl #[.slice o8 h2.length o9, .agg #[.string h3, .string h4]] (by rfl) rfl rfl zM ?_
     with_reducible refine (spec_PutFile.calls f1 _ _ h2 h3 h4 a8 d7 _ ?s1 ?s2 o4.out).mono ?_
     (case s1 => repeat (first | exact (Kd.R_reads' a9.out).2.2 | (with_reducible refine Kd.C_alloc ?_ _) | (with_reducible refine Kd.C_drewN ?_ _) | (with_reducible refine Kd.C_drew ?_)))
     (case s2 => exact (Kd.R_reads' a9.out).2.1)
     rintro e y5 ⟨b3, rfl, a3, hb⟩
     refine ⟨_, rfl, ?_⟩
     have b0 := zA (Kd.R_lower (Kd.R_new' a3 (Kd.R_lt (zR a9.out))) (below_size (zW HB.out))); replace a9 := zA (Kd.R_elder' (zR a9.out) (Kd.R_base a3) hb); replace a0 := zb a0 hb; replace HB := zh HB hb
     (try clear hb a3)
     refine hK.out _ _ zO fun hHeld => ?_
     clear hK K; refine zn ?_; refine zp 5 26 ?_; refine zp 6 32 ?_; refine zp 7 33 ?_; refine zp 8 6 ?_; refine zp 9 7 ?_
     refine done_ (done_of HT_.out (by kernel_rfl)) ?_
     go_upto_region 11 with (first | ((with_reducible refine zq 11 ?_); refine zg (some 35) Tryd.func11 #[.slice A0 l0.length c0] ?_; (with_reducible refine (laws_toFileS.calls f1 _ _ l0 a6 _ ?s1 ?s2 o5.out).mono ?_); (case s1 => exact zC (Kd.C_below f7.out HB.out)); (case s2 => exact f8.out); rintro e y6 ⟨y7, rfl, a3, hb⟩; refine ⟨_, rfl, ?_⟩; have c2 := zA (Kd.R_lower (Kd.R_new' (Kd.R_new' a3 (Kd.R_lt (zR a9.out))) (Kd.R_lt (zR b0.out))) (below_size (zW HB.out))); replace a9 := zA (Kd.R_elder' (zR a9.out) (Kd.R_base a3) hb); replace b0 := zA (Kd.R_elder' (zR b0.out) (Kd.R_base a3) hb); replace a0 := zb a0 hb; replace HB := zh HB hb; (try clear hb a3); obtain ⟨e6, e7, e8, e9⟩ := ze2 a0.out) | ((with_reducible refine zq 12 ?_); refine zg (some 39) Tryd.func12 #[.agg #[.string a4, .string a5]] ?_; (with_reducible refine (laws_toFile.calls a4 a5 h5 h6 _ o6.out).mono ?_); rintro e y8 ⟨rfl, hb⟩; refine ⟨_, rfl, ?_⟩; replace a9 := zr a9 hb; replace b0 := zr b0 hb; replace c2 := zr c2 hb; replace a0 := zb a0 hb; replace HB := zh HB hb; (try clear hb); obtain ⟨b5, b6, p0⟩ := Kd.R_slice c2.out; subst p0) | ((with_reducible refine zq 13 ?_); refine zg (some 40) Tryd.func13 #[.slice b5 a6.length b6, .agg #[.string h5, .string h6]] ?_; (with_reducible refine (impl_PutFile.calls f1 _ _ a6 h5 h6 a7 f3 _ ?s1 ?s2 ?s3 o7.out).mono ?_); (case s1 => repeat (first | exact (Kd.R_reads' c2.out).2.2 | (with_reducible refine Kd.C_alloc ?_ _) | (with_reducible refine Kd.C_drewN ?_ _) | (with_reducible refine Kd.C_drew ?_))); (case s2 => exact (Kd.R_reads' c2.out).2.1); (case s3 => exact GW.below HG.out (zW HB.out)); rintro e y9 ⟨d0, rfl, a3, hb⟩; refine ⟨_, rfl, ?_⟩; have d3 := zA (Kd.R_lower (Kd.R_new' (Kd.R_new' (Kd.R_new' a3 (Kd.R_lt (zR a9.out))) (Kd.R_lt (zR b0.out))) (Kd.R_lt (zR c2.out))) (below_size (zW HB.out))); replace a9 := zA (Kd.R_elder' (zR a9.out) (Kd.R_base a3) hb); replace b0 := zA (Kd.R_elder' (zR b0.out) (Kd.R_base a3) hb); replace c2 := zA (Kd.R_elder' (zR c2.out) (Kd.R_base a3) hb); replace a0 := zb a0 hb; replace HB := zh HB hb; (try clear hb a3)))
     (try simp only [Act.put, zT])
     go_cut [51] (fun p1 wc => ∃ (kq : Nat) (i0 : Bool), p1 = .bool i0 ∧ Aside0 (laws_FnExactPutFile.j2 kq l0 a8 d7 a6 a7 f3 i0 a4 a5 = some r) ∧ Aside0 (kq ≤ f1) ∧ Aside0 (Kd.R k31 31 wc w.heap.size (fun k_ => some k_ ≠ ((.slice b5 a6.length b6) : Value).ownBlock ∧ some k_ ≠ (d0 : Value).ownBlock) b3 a8) ∧ Aside0 (Kd.R k31 31 wc w.heap.size (fun k_ => some k_ ≠ (b3 : Value).ownBlock ∧ some k_ ≠ (d0 : Value).ownBlock) (.slice b5 a6.length b6) a6) ∧ Aside0 (Kd.R k31 31 wc w.heap.size (fun k_ => some k_ ≠ (b3 : Value).ownBlock ∧ some k_ ≠ ((.slice b5 a6.length b6) : Value).ownBlock) d0 a7) ∧ Aside0 (wc.heap[b7]? = some (.cells #[.string a4, .string a5] 24 (0, 0))) ∧ Aside0 (Below w.heap.size w wc))
     case first =>
      have H := h7.out; clear h7; replace H := Option.bind_eq_some_iff.mp H; obtain ⟨z0, m3, H⟩ := H
      try dsimp only at H
      have f9 := zA m3; clear m3; replace H := zB0 H
      rcases H with ⟨rfl, H⟩ | ⟨rfl, H⟩
      ·have H' := zA H; clear H; obtain ⟨p3, p4, p5⟩ := Kd.R_slice d3.out; subst p5; obtain ⟨p6, p7, p8⟩ := Kd.R_slice b0.out; subst p8
       go_wp2_with (first | ((with_reducible refine zq 14 ?_); refine zg (some 45) Tryd.func14 #[.slice p3 a7.length p4, .slice p6 a8.length p7] ?_; (with_reducible refine (laws_eqFileS.calls f1 _ _ a7 _ _ a8 true _ ?s1 ?s2 ?s3 ?s4 f9.out).mono ?_); (case s1 => repeat (first | exact (Kd.R_reads' d3.out).2.2 | (with_reducible refine Kd.C_alloc ?_ _) | (with_reducible refine Kd.C_drewN ?_ _) | (with_reducible refine Kd.C_drew ?_))); (case s2 => exact (Kd.R_reads' d3.out).2.1); (case s3 => repeat (first | exact (Kd.R_reads' b0.out).2.2 | (with_reducible refine Kd.C_alloc ?_ _) | (with_reducible refine Kd.C_drewN ?_ _) | (with_reducible refine Kd.C_drew ?_))); (case s4 => exact (Kd.R_reads' b0.out).2.1); rintro e z1 ⟨rfl, hb⟩; refine ⟨_, rfl, ?_⟩; replace a9 := zr a9 hb; replace b0 := zr b0 hb; replace c2 := zr c2 hb; replace d3 := zr d3 hb; replace a0 := zb a0 hb; replace HB := zh HB hb; (try clear hb)))
       go_meet
       case rel => exact ⟨_, ((f3 != d7)), zS, (by first | exact H' | (subst_vars; exact H')), ⟨by have := b9.out; have := d1.out; first | omega | exact Nat.le_refl _⟩, ⟨zR (Kd.R_mono b0.out (fun _ hk => ⟨hk.1.2, hk.2⟩))⟩, ⟨zR (Kd.R_mono c2.out (fun _ hk => ⟨hk.1.2, hk.2⟩))⟩, ⟨zR (Kd.R_mono d3.out (fun _ hk => ⟨hk.1.2, hk.2⟩))⟩, ⟨zK a0.out⟩, ⟨zW HB.out⟩⟩
      have H' := zA H; clear H; obtain ⟨p9, q0, q1⟩ := Kd.R_slice d3.out; subst q1; obtain ⟨q2, q3, q4⟩ := Kd.R_slice b0.out; subst q4
      go_wp2_with (first | ((with_reducible refine zq 14 ?_); refine zg (some 45) Tryd.func14 #[.slice p9 a7.length q0, .slice q2 a8.length q3] ?_; (with_reducible refine (laws_eqFileS.calls f1 _ _ a7 _ _ a8 false _ ?s1 ?s2 ?s3 ?s4 f9.out).mono ?_); (case s1 => repeat (first | exact (Kd.R_reads' d3.out).2.2 | (with_reducible refine Kd.C_alloc ?_ _) | (with_reducible refine Kd.C_drewN ?_ _) | (with_reducible refine Kd.C_drew ?_))); (case s2 => exact (Kd.R_reads' d3.out).2.1); (case s3 => repeat (first | exact (Kd.R_reads' b0.out).2.2 | (with_reducible refine Kd.C_alloc ?_ _) | (with_reducible refine Kd.C_drewN ?_ _) | (with_reducible refine Kd.C_drew ?_))); (case s4 => exact (Kd.R_reads' b0.out).2.1); rintro e z2 ⟨rfl, hb⟩; refine ⟨_, rfl, ?_⟩; replace a9 := zr a9 hb; replace b0 := zr b0 hb; replace c2 := zr c2 hb; replace d3 := zr d3 hb; replace a0 := zb a0 hb; replace HB := zh HB hb; (try clear hb)))
      go_meet
      case rel => exact ⟨_, (true), zS, (by first | exact H' | (subst_vars; exact H')), ⟨by have := b9.out; have := d1.out; first | omega | exact Nat.le_refl _⟩, ⟨zR (Kd.R_mono b0.out (fun _ hk => ⟨hk.1.2, hk.2⟩))⟩, ⟨zR (Kd.R_mono c2.out (fun _ hk => ⟨hk.1.2, hk.2⟩))⟩, ⟨zR (Kd.R_mono d3.out (fun _ hk => ⟨hk.1.2, hk.2⟩))⟩, ⟨zK a0.out⟩, ⟨zW HB.out⟩⟩
     case rest =>
      clear h7
      try clear c1
      try clear p2
      try clear c3
      try clear c7
      try clear b4
      try clear c8
      try clear c9
      try clear c10
      try clear c11
      try clear c12
      try clear b8
      try clear c13
      try clear c14
      try clear c31
      try clear e0 e1 e2 e3
      try clear e6 e7 e8 e9
      try clear p2
      obtain ⟨kq, i0, rfl, HA, d8, a2, b1, a1, a0, HB⟩ := hcut
      cases kq with
      | zero => exact absurd HA.out (by simp [laws_FnExactPutFile.j2])
      | succ q5 =>
       have H := HA.out; clear HA; simp only [laws_FnExactPutFile.j2] at H; have i1 := zA H; clear H
       go_upto_if 51 with (fail)
       go_cut [] (fun wc => ∃ (kq : Nat), Aside0 (laws_FnExactPutFile.j3 kq l0 a8 d7 a6 a7 f3 a4 a5 = some r) ∧ Aside0 (kq ≤ q5) ∧ Aside0 (Kd.R k31 31 wc w.heap.size (fun k_ => some k_ ≠ ((.slice b5 a6.length b6) : Value).ownBlock ∧ some k_ ≠ (d0 : Value).ownBlock) b3 a8) ∧ Aside0 (Kd.R k31 31 wc w.heap.size (fun k_ => some k_ ≠ (b3 : Value).ownBlock ∧ some k_ ≠ (d0 : Value).ownBlock) (.slice b5 a6.length b6) a6) ∧ Aside0 (Kd.R k31 31 wc w.heap.size (fun k_ => some k_ ≠ (b3 : Value).ownBlock ∧ some k_ ≠ ((.slice b5 a6.length b6) : Value).ownBlock) d0 a7) ∧ Aside0 (wc.heap[b7]? = some (.cells #[.string a4, .string a5] 24 (0, 0))) ∧ Aside0 (Below w.heap.size w wc))
       case first =>
        have H := i1.out; clear i1; replace H := zB0 H
        rcases H with ⟨rfl, H⟩ | ⟨rfl, H⟩
        ·exact absurd H (by simp)
        have H' := zA H; clear H
        go_wp2
        go_meet
        case rel => exact ⟨_, (by first | exact H' | (subst_vars; exact H')), ⟨by have := b9.out; have := d1.out; have := d8.out; first | omega | exact Nat.le_refl _⟩, ⟨zR a2.out⟩, ⟨zR b1.out⟩, ⟨zR a1.out⟩, ⟨zK a0.out⟩, ⟨zW HB.out⟩⟩
       case rest =>
        clear i1
        try clear c1
        try clear p2
        try clear c3
        try clear c7
        try clear b4
        try clear c8
        try clear c9
        try clear c10
        try clear c11
        try clear c12
        try clear b8
        try clear c13
        try clear c14
        try clear c31
        try clear c39
        try clear e0 e1 e2 e3
        try clear e6 e7 e8 e9
        try clear p2
        obtain ⟨kq, HA, e4, a2, b1, a1, a0, HB⟩ := hcut
        cases kq with
        | zero => exact absurd HA.out (by simp [laws_FnExactPutFile.j3])
        | succ i2 =>
         have H := HA.out; clear HA; simp only [laws_FnExactPutFile.j3] at H; replace H := Option.bind_eq_some_iff.mp H; obtain ⟨i3, m4, H⟩ := H
         try dsimp only at H
         have q6 := zA m4; clear m4; replace H := Option.bind_eq_some_iff.mp H; obtain ⟨q7, m5, H⟩ := H
         try dsimp only at H
         have q8 := zA m5; clear m5; have i4 := zA H; clear H
         go_upto_if 56 with (first | ((with_reducible refine zq 11 ?_); refine zg (some 54) Tryd.func11 #[.slice A0 l0.length c0] ?_; (with_reducible refine (laws_toFileS.calls i2 _ _ l0 i3 _ ?s1 ?s2 q6.out).mono ?_); (case s1 => exact zC (Kd.C_below f7.out HB.out)); (case s2 => exact f8.out); rintro e z3 ⟨z4, rfl, a3, hb⟩; refine ⟨_, rfl, ?_⟩; have g0 := zA (Kd.R_lower (Kd.R_new' (Kd.R_new' (Kd.R_new' a3 (Kd.R_lt (zR a2.out))) (Kd.R_lt (zR b1.out))) (Kd.R_lt (zR a1.out))) (below_size (zW HB.out))); replace a2 := zA (Kd.R_elder' (zR a2.out) (Kd.R_base a3) hb); replace b1 := zA (Kd.R_elder' (zR b1.out) (Kd.R_base a3) hb); replace a1 := zA (Kd.R_elder' (zR a1.out) (Kd.R_base a3) hb); replace a0 := zb a0 hb; replace HB := zh HB hb; (try clear hb a3); obtain ⟨q9, r0, r1⟩ := Kd.R_slice g0.out; subst r1) | ((with_reducible refine zq 14 ?_); refine zg (some 55) Tryd.func14 #[.slice b5 a6.length b6, .slice q9 i3.length r0] ?_; (with_reducible refine (laws_eqFileS.calls i2 _ _ a6 _ _ i3 q7 _ ?s1 ?s2 ?s3 ?s4 q8.out).mono ?_); (case s1 => repeat (first | exact (Kd.R_reads' b1.out).2.2 | (with_reducible refine Kd.C_alloc ?_ _) | (with_reducible refine Kd.C_drewN ?_ _) | (with_reducible refine Kd.C_drew ?_))); (case s2 => exact (Kd.R_reads' b1.out).2.1); (case s3 => repeat (first | exact (Kd.R_reads' g0.out).2.2 | (with_reducible refine Kd.C_alloc ?_ _) | (with_reducible refine Kd.C_drewN ?_ _) | (with_reducible refine Kd.C_drew ?_))); (case s4 => exact (Kd.R_reads' g0.out).2.1); rintro e z5 ⟨rfl, hb⟩; refine ⟨_, rfl, ?_⟩; replace a2 := zr a2 hb; replace b1 := zr b1 hb; replace a1 := zr a1 hb; replace g0 := zr g0 hb; replace a0 := zb a0 hb; replace HB := zh HB hb; (try clear hb)))
         (try simp only [Act.put, zT])
         go_cut [] (fun wc => ∃ (kq : Nat), Aside0 (laws_FnExactPutFile.j4 kq l0 a8 d7 a6 a7 f3 a4 a5 = some r) ∧ Aside0 (kq ≤ i2) ∧ Aside0 (Kd.R k31 31 wc w.heap.size (fun k_ => some k_ ≠ ((.slice b5 a6.length b6) : Value).ownBlock ∧ some k_ ≠ (d0 : Value).ownBlock) b3 a8) ∧ Aside0 (Kd.R k31 31 wc w.heap.size (fun k_ => some k_ ≠ (b3 : Value).ownBlock ∧ some k_ ≠ (d0 : Value).ownBlock) (.slice b5 a6.length b6) a6) ∧ Aside0 (Kd.R k31 31 wc w.heap.size (fun k_ => some k_ ≠ (b3 : Value).ownBlock ∧ some k_ ≠ ((.slice b5 a6.length b6) : Value).ownBlock) d0 a7) ∧ Aside0 (wc.heap[b7]? = some (.cells #[.string a4, .string a5] 24 (0, 0))) ∧ Aside0 (Below w.heap.size w wc))
         case first =>
          have H := i4.out; clear i4; replace H := zB0 H
          rcases H with ⟨rfl, H⟩ | ⟨rfl, H⟩
          ·have H' := zA H; clear H
           go_wp2
           go_meet
           case rel => exact ⟨_, (by first | exact H' | (subst_vars; exact H')), ⟨by have := b9.out; have := d1.out; have := d8.out; have := e4.out; first | omega | exact Nat.le_refl _⟩, ⟨zR (Kd.R_mono a2.out (fun _ hk => ⟨hk.1.1, hk.1.2⟩))⟩, ⟨zR (Kd.R_mono b1.out (fun _ hk => ⟨hk.1.1, hk.1.2⟩))⟩, ⟨zR (Kd.R_mono a1.out (fun _ hk => ⟨hk.1.1, hk.1.2⟩))⟩, ⟨zK a0.out⟩, ⟨zW HB.out⟩⟩
          exact absurd H (by simp)
         case rest =>
          clear i4
          try clear c1
          try clear p2
          try clear c3
          try clear c4
          try clear c7
          try clear b4
          try clear c8
          try clear c9
          try clear c10
          try clear c11
          try clear c12
          try clear b8
          try clear c13
          try clear c14
          try clear c31
          try clear c39
          try clear c46
          try clear e0 e1 e2 e3
          try clear e6 e7 e8 e9
          try clear p2
          obtain ⟨kq, HA, f0, a2, b1, a1, a0, HB⟩ := hcut
          cases kq with
          | zero => exact absurd HA.out (by simp [laws_FnExactPutFile.j4])
          | succ g8 =>
           have H := HA.out; clear HA; simp only [laws_FnExactPutFile.j4] at H; replace H := Option.bind_eq_some_iff.mp H; obtain ⟨⟨r2, r3⟩, m6, H⟩ := H
           try dsimp only at H
           have r4 := zA m6; clear m6; have i5 := zA H; clear H
           go_upto_region 17 with (first | ((with_reducible refine zq 15 ?_); refine zg (some 59) Tryd.func15 #[.slice b5 a6.length b6, .int .i64 1] ?_; (with_reducible refine (laws_markFileS.calls g8 (fun k_ => some k_ = (.slice b5 a6.length b6 : Value).ownBlock) (.slice b5 a6.length b6) a6 1 r2 r3 w _ ?s1 ?s2 r4.out).mono ?_); (case s1 => repeat (first | (with_reducible first | exact HB.out | apply below_alloc | apply pw_below_drewN | apply below_drew1 | refine below_set ?_ l4.out) | exact HB.out)); (case s2 => exact Kd.R_tight rfl b1.out); rintro e z6 ⟨rfl, g1, hb, hkp⟩; refine ⟨_, rfl, ?_⟩; replace a2 := zA (Kd.R_mono (ok' := fun k_ => some k_ ≠ (.slice b5 a6.length b6 : Value).ownBlock ∧ some k_ ≠ (d0 : Value).ownBlock) (Kd.R_keptB (a2.out) hkp (fun k_ hk_ hs_ => (hk_.1) hs_)) (fun k_ hk_ => ⟨hk_.1.1, hk_.1.2⟩)); replace a1 := zA (Kd.R_mono (ok' := fun k_ => some k_ ≠ (b3 : Value).ownBlock ∧ some k_ ≠ (.slice b5 a6.length b6 : Value).ownBlock) (Kd.R_keptB (a1.out) hkp (fun k_ hk_ hs_ => (hk_.2) hs_)) (fun k_ hk_ => ⟨hk_.1.1, hk_.1.2⟩)); replace a0 := zA (blk_kept (zK a0.out) hkp (fun hs_ => (fun e_ => (Kd.R_ne b1.out a0.out (by decide)) e_) hs_)); replace b1 := zA (Kd.R_reok rfl g1 (fun k_ e_ => b1.out.1 k_ e_)); replace HB := zA (hb); (try clear hb); (try clear hkp); (try clear g1)))
           (try simp only [Act.put, zT])
           go_cut [72] (fun r5 wc => ∃ (kq : Nat) (i6 : Bool), r5 = .bool i6 ∧ Aside0 (laws_FnExactPutFile.j5 kq l0 a8 d7 a7 i6 a4 a5 = some r) ∧ Aside0 (kq ≤ g8) ∧ Aside0 (Kd.R k31 31 wc w.heap.size (fun k_ => some k_ ≠ (d0 : Value).ownBlock) b3 a8) ∧ Aside0 (Kd.R k31 31 wc w.heap.size (fun k_ => some k_ ≠ (b3 : Value).ownBlock) d0 a7) ∧ Aside0 (wc.heap[b7]? = some (.cells #[.string a4, .string a5] 24 (0, 0))) ∧ Aside0 (Below w.heap.size w wc))
           case first =>
            have H := i5.out; clear i5; replace H := zI0 H
            rcases H with ⟨d9, H⟩ | ⟨d9, H⟩
            ·(first | rw [d9] | (simp only [i64_w, i32_w]; rw [d9]) | skip)
             have H' := zA H; clear H
             go_wp2
             go_meet
             case rel => exact ⟨_, (true), zS, (by first | exact H' | (subst_vars; exact H')), ⟨by have := b9.out; have := d1.out; have := d8.out; have := e4.out; have := f0.out; first | omega | exact Nat.le_refl _⟩, ⟨zR (Kd.R_mono a2.out (fun _ hk => hk.2))⟩, ⟨zR (Kd.R_mono a1.out (fun _ hk => hk.1))⟩, ⟨zK a0.out⟩, ⟨zW HB.out⟩⟩
            (first | rw [d9] | (simp only [i64_w, i32_w]; rw [d9]) | skip)
            replace H := Option.bind_eq_some_iff.mp H; obtain ⟨z7, m7, H⟩ := H
            try dsimp only at H
            have m8 := zA m7; clear m7; replace H := zB0 H
            rcases H with ⟨rfl, H⟩ | ⟨rfl, H⟩
            ·have H' := zA H; clear H; obtain ⟨z8, z9, r6⟩ := Kd.R_slice a1.out; subst r6; obtain ⟨A1, A2, r7⟩ := Kd.R_slice a2.out; subst r7
             go_wp2_with (first | (go_at_call 14; (with_reducible refine (laws_eqFileS.calls g8 _ _ a7 _ _ a8 true _ ?s1 ?s2 ?s3 ?s4 m8.out).mono ?_); (case s1 => repeat (first | exact (Kd.R_reads' a1.out).2.2 | (with_reducible refine Kd.C_alloc ?_ _) | (with_reducible refine Kd.C_drewN ?_ _) | (with_reducible refine Kd.C_drew ?_))); (case s2 => exact (Kd.R_reads' a1.out).2.1); (case s3 => repeat (first | exact (Kd.R_reads' a2.out).2.2 | (with_reducible refine Kd.C_alloc ?_ _) | (with_reducible refine Kd.C_drewN ?_ _) | (with_reducible refine Kd.C_drew ?_))); (case s4 => exact (Kd.R_reads' a2.out).2.1); rintro e A4 ⟨rfl, hb⟩; replace a2 := zr a2 hb; replace b1 := zr b1 hb; replace a1 := zr a1 hb; replace a0 := zb a0 hb; replace HB := zh HB hb; (try clear hb)))
             go_meet
             case rel => exact ⟨_, ((f3 != d7)), zS, (by first | exact H' | (subst_vars; exact H')), ⟨by have := b9.out; have := d1.out; have := d8.out; have := e4.out; have := f0.out; first | omega | exact Nat.le_refl _⟩, ⟨zR (Kd.R_mono a2.out (fun _ hk => hk.2))⟩, ⟨zR (Kd.R_mono a1.out (fun _ hk => hk.1))⟩, ⟨zK a0.out⟩, ⟨zW HB.out⟩⟩
            have H' := zA H; clear H; obtain ⟨A5, A6, r8⟩ := Kd.R_slice a1.out; subst r8; obtain ⟨A7, A9, r9⟩ := Kd.R_slice a2.out; subst r9
            go_wp2_with (first | (go_at_call 14; (with_reducible refine (laws_eqFileS.calls g8 _ _ a7 _ _ a8 false _ ?s1 ?s2 ?s3 ?s4 m8.out).mono ?_); (case s1 => repeat (first | exact (Kd.R_reads' a1.out).2.2 | (with_reducible refine Kd.C_alloc ?_ _) | (with_reducible refine Kd.C_drewN ?_ _) | (with_reducible refine Kd.C_drew ?_))); (case s2 => exact (Kd.R_reads' a1.out).2.1); (case s3 => repeat (first | exact (Kd.R_reads' a2.out).2.2 | (with_reducible refine Kd.C_alloc ?_ _) | (with_reducible refine Kd.C_drewN ?_ _) | (with_reducible refine Kd.C_drew ?_))); (case s4 => exact (Kd.R_reads' a2.out).2.1); rintro e B0 ⟨rfl, hb⟩; replace a2 := zr a2 hb; replace b1 := zr b1 hb; replace a1 := zr a1 hb; replace a0 := zb a0 hb; replace HB := zh HB hb; (try clear hb)))
            go_meet
            case rel => exact ⟨_, (true), zS, (by first | exact H' | (subst_vars; exact H')), ⟨by have := b9.out; have := d1.out; have := d8.out; have := e4.out; have := f0.out; first | omega | exact Nat.le_refl _⟩, ⟨zR (Kd.R_mono a2.out (fun _ hk => hk.2))⟩, ⟨zR (Kd.R_mono a1.out (fun _ hk => hk.1))⟩, ⟨zK a0.out⟩, ⟨zW HB.out⟩⟩
           case rest =>
            clear i5
            try clear c1
            try clear p2
            try clear c3
            try clear c4
            try clear c5
            try clear c7
            try clear b4
            try clear c8
            try clear c9
            try clear c10
            try clear c11
            try clear c12
            try clear b8
            try clear c13
            try clear c14
            try clear c15
            try clear c31
            try clear c39
            try clear c46
            try clear c50
            try clear d9
            try clear c52
            try clear e0 e1 e2 e3
            try clear e6 e7 e8 e9
            try clear p2
            obtain ⟨kq, i6, rfl, HA, f4, a2, a1, a0, HB⟩ := hcut
            cases kq with
            | zero => exact absurd HA.out (by simp [laws_FnExactPutFile.j5])
            | succ t0 =>
             have H := HA.out; clear HA; simp only [laws_FnExactPutFile.j5] at H; have i7 := zA H; clear H
             go_upto_if 72 with (fail)
             go_cut [] (fun wc => ∃ (kq : Nat), Aside0 (laws_FnExactPutFile.j6 kq l0 a8 d7 a7 a4 a5 = some r) ∧ Aside0 (kq ≤ t0) ∧ Aside0 (Kd.R k31 31 wc w.heap.size (fun k_ => some k_ ≠ (d0 : Value).ownBlock) b3 a8) ∧ Aside0 (Kd.R k31 31 wc w.heap.size (fun k_ => some k_ ≠ (b3 : Value).ownBlock) d0 a7) ∧ Aside0 (wc.heap[b7]? = some (.cells #[.string a4, .string a5] 24 (0, 0))) ∧ Aside0 (Below w.heap.size w wc))
             case first =>
              have H := i7.out; clear i7; replace H := zB0 H
              rcases H with ⟨rfl, H⟩ | ⟨rfl, H⟩
              ·exact absurd H (by simp)
              have H' := zA H; clear H
              go_wp2
              go_meet
              case rel => exact ⟨_, (by first | exact H' | (subst_vars; exact H')), ⟨by have := b9.out; have := d1.out; have := d8.out; have := e4.out; have := f0.out; have := f4.out; first | omega | exact Nat.le_refl _⟩, ⟨zR a2.out⟩, ⟨zR a1.out⟩, ⟨zK a0.out⟩, ⟨zW HB.out⟩⟩
             case rest =>
              clear i7
              try clear c1
              try clear p2
              try clear c3
              try clear c4
              try clear c5
              try clear c6
              try clear c7
              try clear b4
              try clear c8
              try clear c9
              try clear c10
              try clear c11
              try clear c12
              try clear b8
              try clear c13
              try clear c14
              try clear c15
              try clear c31
              try clear c39
              try clear c46
              try clear c50
              try clear d9
              try clear c52
              try clear c60
              try clear e0 e1 e2 e3
              try clear e6 e7 e8 e9
              try clear p2
              obtain ⟨kq, HA, g2, a2, a1, a0, HB⟩ := hcut
              cases kq with
              | zero => exact absurd HA.out (by simp [laws_FnExactPutFile.j6])
              | succ i8 =>
               have H := HA.out; clear HA; simp only [laws_FnExactPutFile.j6] at H; replace H := Option.bind_eq_some_iff.mp H; obtain ⟨⟨g3, b2⟩, m9, H⟩ := H
               try dsimp only at H
               have t1 := zA m9; clear m9; replace H := Option.bind_eq_some_iff.mp H; obtain ⟨n0, n1, H⟩ := H
               try dsimp only at H
               have t2 := zA n1; clear n1; have i9 := zA H; clear H; obtain ⟨d4, d5, t3⟩ := Kd.R_slice a1.out; subst t3
               go_upto_if 80 with (first | ((with_reducible refine zq 15 ?_); refine zg (some 75) Tryd.func15 #[.slice d4 a7.length d5, .int .i64 1] ?_; (with_reducible refine (laws_markFileS.calls i8 (fun k_ => some k_ = (.slice d4 a7.length d5 : Value).ownBlock) (.slice d4 a7.length d5) a7 1 g3 b2 w _ ?s1 ?s2 t1.out).mono ?_); (case s1 => repeat (first | (with_reducible first | exact HB.out | apply below_alloc | apply pw_below_drewN | apply below_drew1 | refine below_set ?_ l4.out) | exact HB.out)); (case s2 => exact Kd.R_tight rfl a1.out); rintro e B1 ⟨rfl, g1, hb, hkp⟩; refine ⟨_, rfl, ?_⟩; replace a2 := zA (Kd.R_mono (ok' := fun k_ => some k_ ≠ (.slice d4 a7.length d5 : Value).ownBlock) (Kd.R_keptB (a2.out) hkp (fun k_ hk_ hs_ => (hk_) hs_)) (fun k_ hk_ => hk_.1)); replace a0 := zA (blk_kept (zK a0.out) hkp (fun hs_ => (fun e_ => (Kd.R_ne a1.out a0.out (by decide)) e_) hs_)); replace a1 := zA (Kd.R_reok rfl g1 (fun k_ e_ => a1.out.1 k_ e_)); replace HB := zA (hb); (try clear hb); (try clear hkp); (try clear g1)) | ((with_reducible refine gate_callee (f := 16) rfl ?_); refine goesL_ (some 78) rfl rfl Tryd.func16 (by kernel_rfl) rfl #[.slice d4 b2.length d5, .int .i64 1] rfl (by (try simp only [List.map_toArray, List.map_cons, List.map_nil]); first | done | (rw [show b2.length = a7.length from (Kd.R_reads' a1.out).1.symm] <;> rfl) | rfl | (simp only [List.length_drop, List.length_take]; rfl)) ?_; (with_reducible refine (laws_heldFileS.calls i8 _ _ b2 1 n0 _ ?s1 ?s2 t2.out).mono ?_); (case s1 => repeat (first | exact (Kd.R_reads' a1.out).2.2 | (with_reducible refine Kd.C_alloc ?_ _) | (with_reducible refine Kd.C_drewN ?_ _) | (with_reducible refine Kd.C_drew ?_))); (case s2 => rw [show b2.length = a7.length from (Kd.R_reads' a1.out).1.symm]; exact (Kd.R_reads' a1.out).2.1); rintro e B2 ⟨rfl, hb⟩; refine ⟨_, rfl, ?_⟩; replace a2 := zr a2 hb; replace a1 := zr a1 hb; replace a0 := zb a0 hb; replace HB := zh HB hb; (try clear hb)))
               (try simp only [Act.put, zT])
               go_cut [] (fun wc => ∃ (kq : Nat), Aside0 (laws_FnExactPutFile.j7 kq l0 a8 d7 b2 g3 n0 a4 a5 = some r) ∧ Aside0 (kq ≤ i8) ∧ Aside0 (Kd.R k31 31 wc w.heap.size (fun k_ => some k_ ≠ ((.slice d4 a7.length d5) : Value).ownBlock) b3 a8) ∧ Aside0 (Kd.R k31 31 wc w.heap.size (fun k_ => some k_ ≠ (b3 : Value).ownBlock) (.slice d4 a7.length d5) b2) ∧ Aside0 (wc.heap[b7]? = some (.cells #[.string a4, .string a5] 24 (0, 0))) ∧ Aside0 (Below w.heap.size w wc))
               case first =>
                have H := i9.out; clear i9; replace H := zI1 H
                rcases H with ⟨f2, H⟩ | ⟨f2, H⟩
                ·exact absurd H (by simp)
                have f5 := decide_eq_false f2; clear f2
                (first | rw [f5] | (simp only [i64_w, i32_w]; rw [f5]) | skip)
                have H' := zA H; clear H
                go_wp2
                go_meet
                case rel => exact ⟨_, (by first | exact H' | (subst_vars; exact H')), ⟨by have := b9.out; have := d1.out; have := d8.out; have := e4.out; have := f0.out; have := f4.out; have := g2.out; first | omega | exact Nat.le_refl _⟩, ⟨zR a2.out⟩, ⟨zR a1.out⟩, ⟨zK a0.out⟩, ⟨zW HB.out⟩⟩
               case rest =>
                clear i9
                try clear c1
                try clear p2
                try clear c3
                try clear c4
                try clear c5
                try clear c6
                try clear c7
                try clear b4
                try clear c8
                try clear c9
                try clear c10
                try clear c11
                try clear c12
                try clear b8
                try clear c13
                try clear c14
                try clear c15
                try clear c16
                try clear c31
                try clear c39
                try clear c46
                try clear c50
                try clear d9
                try clear c52
                try clear c60
                try clear f2
                try clear f5
                try clear e0 e1 e2 e3
                try clear e6 e7 e8 e9
                try clear p2
                obtain ⟨kq, HA, g9, a2, a1, a0, HB⟩ := hcut; have d2 := (Kd.R_reads' a1.out).1; rw [d2] at a1
                (try simp only [d2])
                (try simp only [d2] at a0)
                (try simp only [d2] at a2)
                cases kq with
                | zero => exact absurd HA.out (by simp [laws_FnExactPutFile.j7])
                | succ t4 =>
                 have H := HA.out; clear HA; simp only [laws_FnExactPutFile.j7] at H; have k0 := zA H; clear H
                 go_upto_if 83 with (fail)
                 go_cut [] (fun wc => ∃ (kq : Nat), Aside0 (laws_FnExactPutFile.j8 kq l0 a8 d7 b2 g3 a4 a5 = some r) ∧ Aside0 (kq ≤ t4) ∧ Aside0 (Kd.R k31 31 wc w.heap.size (fun k_ => some k_ ≠ ((.slice d4 b2.length d5) : Value).ownBlock) b3 a8) ∧ Aside0 (Kd.R k31 31 wc w.heap.size (fun k_ => some k_ ≠ (b3 : Value).ownBlock) (.slice d4 b2.length d5) b2) ∧ Aside0 (wc.heap[b7]? = some (.cells #[.string a4, .string a5] 24 (0, 0))) ∧ Aside0 (Below w.heap.size w wc))
                 case first =>
                  have H := k0.out; clear k0; replace H := zC0 H; obtain ⟨f6, H⟩ := H; have g4 := beq_iff_eq.mpr f6; have k1 := bne_eq_false_iff_eq.mpr f6; clear f6
                  (first | rw [g4] | (simp only [i64_w, i32_w]; rw [g4]) | skip)
                  have H' := zA H; clear H
                  go_wp2
                  go_meet
                  case rel => exact ⟨_, (by first | exact H' | (subst_vars; exact H')), ⟨by have := b9.out; have := d1.out; have := d8.out; have := e4.out; have := f0.out; have := f4.out; have := g2.out; have := g9.out; first | omega | exact Nat.le_refl _⟩, ⟨by (try simp only [d2]); (with_reducible repeat (first | apply Kd.R_alloc | apply Kd.R_drewN | apply Kd.R_drew)); exact a2.out⟩, ⟨by (try simp only [d2]); (with_reducible repeat (first | apply Kd.R_alloc | apply Kd.R_drewN | apply Kd.R_drew)); exact a1.out⟩, ⟨by (try simp only [d2]); (with_reducible repeat (first | refine blk_drewN ?_ _ | refine blk_drew ?_ | refine blk_alloc ?_ _)); exact a0.out⟩, ⟨zW HB.out⟩⟩
                 case rest =>
                  clear k0
                  try clear c1
                  try clear p2
                  try clear c3
                  try clear c4
                  try clear c5
                  try clear c6
                  try clear c7
                  try clear b4
                  try clear c8
                  try clear c9
                  try clear c10
                  try clear c11
                  try clear c12
                  try clear b8
                  try clear c13
                  try clear c14
                  try clear c15
                  try clear c16
                  try clear c31
                  try clear c39
                  try clear c46
                  try clear c50
                  try clear d9
                  try clear c52
                  try clear c60
                  try clear f2
                  try clear f5
                  try clear f6
                  try clear g4
                  try clear k1
                  try clear e0 e1 e2 e3
                  try clear e6 e7 e8 e9
                  try clear p2
                  obtain ⟨kq, HA, k2, a2, a1, a0, HB⟩ := hcut
                  cases kq with
                  | zero => exact absurd HA.out (by simp [laws_FnExactPutFile.j8])
                  | succ g5 =>
                   have H := HA.out; clear HA; simp only [laws_FnExactPutFile.j8] at H; replace H := Option.bind_eq_some_iff.mp H; obtain ⟨k3, n2, H⟩ := H
                   try dsimp only at H
                   have t5 := zA n2; clear n2; replace H := Option.bind_eq_some_iff.mp H; obtain ⟨⟨k4, k5⟩, n3, H⟩ := H
                   try dsimp only at H
                   have t6 := zA n3; clear n3; replace H := Option.bind_eq_some_iff.mp H; obtain ⟨⟨g6, n4⟩, n5, H⟩ := H
                   try dsimp only at H
                   have t7 := zA n5; clear n5; have k6 := zA H; clear H
                   try go_wp2
                   replace a2 := zA (Kd.R_drew a2.out); replace a1 := zA (Kd.R_drew a1.out); replace a0 := zA (blk_drew a0.out); replace HB := zA (below_drew1 HB.out)
                   refine start_ (n := 10) (S := fun w' => w'.cell? ⟨b7, 0, none⟩ = some (.string a4) ∧ w'.cell? ⟨b7, 1, none⟩ = some (.string a5)) (ds := []) (Array.replicate 10 false) (by kernel_rfl) rfl rfl zO fun hHeld => ?_; refine with_tabW laws_FnExactPutFile.tab27 laws_FnExactPutFile.bits27 (fun HT_ HW_ => ?_)
                   generalize wc.drew = B3 at a2 a1 a0 HB hHeld ⊢; refine zp 0 85 ?_; refine zt 2 87 ?_
                   refine zo 1 (some 86) fun K hK => ?_
                   refine goes_ Tryd.func11 (by kernel_rfl) rfl #[.slice A0 l0.length c0] (by rfl) rfl rfl zM ?_
                   with_reducible refine (laws_toFileS.calls g5 _ _ l0 k3 _ ?s1 ?s2 t5.out).mono ?_
                   (case s1 => exact zC (Kd.C_below f7.out HB.out))
                   (case s2 => exact f8.out)
                   rintro e B4 ⟨B5, rfl, a3, hb⟩
                   refine ⟨_, rfl, ?_⟩
                   have d6 := zA (Kd.R_lower (Kd.R_new' (Kd.R_new' a3 (Kd.R_lt (zR a2.out))) (Kd.R_lt (zR a1.out))) (below_size (zW HB.out))); replace a2 := zA (Kd.R_elder' (zR a2.out) (Kd.R_base a3) hb); replace a1 := zA (Kd.R_elder' (zR a1.out) (Kd.R_base a3) hb); replace a0 := zb a0 hb; replace HB := zh HB hb
                   (try clear hb a3)
                   refine hK.out _ _ zO fun hHeld => ?_
                   clear hK K; refine zn ?_
                   refine zo 3 (some 88) fun K hK => ?_
                   refine goes_ Tryd.func12 (by kernel_rfl) rfl #[.agg #[.string a4, .string a5]] (by rfl) rfl rfl zM ?_
                   with_reducible refine (laws_toFile.calls a4 a5 k4 k5 _ t6.out).mono ?_
                   rintro e B6 ⟨rfl, hb⟩
                   refine ⟨_, rfl, ?_⟩
                   replace a2 := zr a2 hb; replace a1 := zr a1 hb; replace d6 := zr d6 hb; replace a0 := zb a0 hb; replace HB := zh HB hb
                   (try clear hb)
                   obtain ⟨t8, t9, n6⟩ := Kd.R_slice d6.out
                   (first | subst n6 | (injection n6 with f1_ f2_ f3_; have h8 := f1_.symm; have h9 := f3_.symm; clear f1_ f2_ f3_; subst h8; subst h9))
                   refine hK.out _ _ zO fun hHeld => ?_
                   clear hK K; refine zn ?_
                   refine zo 4 (some 89) fun K hK => ?_
                   refine goes_ Tryd.func13 (by kernel_rfl) rfl #[.slice t8 k3.length t9, .agg #[.string k4, .string k5]] (by rfl) rfl rfl zM ?_
                   with_reducible refine (impl_PutFile.calls g5 _ _ k3 k4 k5 g6 n4 _ ?s1 ?s2 ?s3 t7.out).mono ?_
                   (case s1 => repeat (first | exact (Kd.R_reads' d6.out).2.2 | (with_reducible refine Kd.C_alloc ?_ _) | (with_reducible refine Kd.C_drewN ?_ _) | (with_reducible refine Kd.C_drew ?_)))
                   (case s2 => exact (Kd.R_reads' d6.out).2.1)
                   (case s3 => exact GW.below HG.out (zW HB.out))
                   rintro e B7 ⟨B8, rfl, a3, hb⟩
                   refine ⟨_, rfl, ?_⟩
                   have e5 := zA (Kd.R_lower (Kd.R_new' (Kd.R_new' (Kd.R_new' a3 (Kd.R_lt (zR a2.out))) (Kd.R_lt (zR a1.out))) (Kd.R_lt (zR d6.out))) (below_size (zW HB.out))); replace a2 := zA (Kd.R_elder' (zR a2.out) (Kd.R_base a3) hb); replace a1 := zA (Kd.R_elder' (zR a1.out) (Kd.R_base a3) hb); replace d6 := zA (Kd.R_elder' (zR d6.out) (Kd.R_base a3) hb); replace a0 := zb a0 hb; replace HB := zh HB hb
                   (try clear hb a3)
                   refine hK.out _ _ zO fun hHeld => ?_
                   clear hK K; refine zn ?_; refine zp 5 84 ?_; refine zp 6 90 ?_; refine zp 7 91 ?_; refine zp 8 14 ?_; refine zp 9 15 ?_
                   refine done_ (done_of HT_.out (by kernel_rfl)) ?_
                   go_upto_region 28 with (fail)
                   go_cut [100] (fun v0 wc => ∃ (kq : Nat) (k7 : Bool), v0 = .bool k7 ∧ Aside0 (laws_FnExactPutFile.j9 kq b2 g3 k7 = some r) ∧ Aside0 (kq ≤ g5) ∧ Aside0 (Kd.R k31 31 wc w.heap.size (fun _ => True) (.slice d4 b2.length d5) b2) ∧ Aside0 (wc.heap[b7]? = some (.cells #[.string a4, .string a5] 24 (0, 0))) ∧ Aside0 (Below w.heap.size w wc))
                   case first =>
                    have H := k6.out; clear k6; replace H := Option.bind_eq_some_iff.mp H; obtain ⟨B9, n7, H⟩ := H
                    try dsimp only at H
                    have n8 := zA n7; clear n7; replace H := zB0 H
                    rcases H with ⟨rfl, H⟩ | ⟨rfl, H⟩
                    ·have H' := zA H; clear H; obtain ⟨v1, v2, v3⟩ := Kd.R_slice e5.out; subst v3; obtain ⟨v4, v5, v6⟩ := Kd.R_slice a2.out; subst v6
                     go_wp2_with (first | ((with_reducible refine zq 14 ?_); refine zg (some 94) Tryd.func14 #[.slice v1 g6.length v2, .slice v4 a8.length v5] ?_; (with_reducible refine (laws_eqFileS.calls g5 _ _ g6 _ _ a8 true _ ?s1 ?s2 ?s3 ?s4 n8.out).mono ?_); (case s1 => repeat (first | exact (Kd.R_reads' e5.out).2.2 | (with_reducible refine Kd.C_alloc ?_ _) | (with_reducible refine Kd.C_drewN ?_ _) | (with_reducible refine Kd.C_drew ?_))); (case s2 => exact (Kd.R_reads' e5.out).2.1); (case s3 => repeat (first | exact (Kd.R_reads' a2.out).2.2 | (with_reducible refine Kd.C_alloc ?_ _) | (with_reducible refine Kd.C_drewN ?_ _) | (with_reducible refine Kd.C_drew ?_))); (case s4 => exact (Kd.R_reads' a2.out).2.1); rintro e C0 ⟨rfl, hb⟩; refine ⟨_, rfl, ?_⟩; replace a2 := zr a2 hb; replace a1 := zr a1 hb; replace d6 := zr d6 hb; replace e5 := zr e5 hb; replace a0 := zb a0 hb; replace HB := zh HB hb; (try clear hb)))
                     go_meet
                     case rel => exact ⟨_, ((n4 != d7)), zS, (by first | exact H' | (subst_vars; exact H')), ⟨by have := b9.out; have := d1.out; have := d8.out; have := e4.out; have := f0.out; have := f4.out; have := g2.out; have := g9.out; have := k2.out; first | omega | exact Nat.le_refl _⟩, ⟨by (try simp only [d2]); (with_reducible repeat (first | apply Kd.R_alloc | apply Kd.R_drewN | apply Kd.R_drew)); exact Kd.R_mono a1.out (fun _ hk => trivial)⟩, ⟨by (try simp only [d2]); (with_reducible repeat (first | refine blk_drewN ?_ _ | refine blk_drew ?_ | refine blk_alloc ?_ _)); exact a0.out⟩, ⟨zW HB.out⟩⟩
                    have H' := zA H; clear H; obtain ⟨v7, v8, v9⟩ := Kd.R_slice e5.out; subst v9; obtain ⟨x0, x1, x2⟩ := Kd.R_slice a2.out; subst x2
                    go_wp2_with (first | ((with_reducible refine zq 14 ?_); refine zg (some 94) Tryd.func14 #[.slice v7 g6.length v8, .slice x0 a8.length x1] ?_; (with_reducible refine (laws_eqFileS.calls g5 _ _ g6 _ _ a8 false _ ?s1 ?s2 ?s3 ?s4 n8.out).mono ?_); (case s1 => repeat (first | exact (Kd.R_reads' e5.out).2.2 | (with_reducible refine Kd.C_alloc ?_ _) | (with_reducible refine Kd.C_drewN ?_ _) | (with_reducible refine Kd.C_drew ?_))); (case s2 => exact (Kd.R_reads' e5.out).2.1); (case s3 => repeat (first | exact (Kd.R_reads' a2.out).2.2 | (with_reducible refine Kd.C_alloc ?_ _) | (with_reducible refine Kd.C_drewN ?_ _) | (with_reducible refine Kd.C_drew ?_))); (case s4 => exact (Kd.R_reads' a2.out).2.1); rintro e C1 ⟨rfl, hb⟩; refine ⟨_, rfl, ?_⟩; replace a2 := zr a2 hb; replace a1 := zr a1 hb; replace d6 := zr d6 hb; replace e5 := zr e5 hb; replace a0 := zb a0 hb; replace HB := zh HB hb; (try clear hb)))
                    go_meet
                    case rel => exact ⟨_, (true), zS, (by first | exact H' | (subst_vars; exact H')), ⟨by have := b9.out; have := d1.out; have := d8.out; have := e4.out; have := f0.out; have := f4.out; have := g2.out; have := g9.out; have := k2.out; first | omega | exact Nat.le_refl _⟩, ⟨by (try simp only [d2]); (with_reducible repeat (first | apply Kd.R_alloc | apply Kd.R_drewN | apply Kd.R_drew)); exact Kd.R_mono a1.out (fun _ hk => trivial)⟩, ⟨by (try simp only [d2]); (with_reducible repeat (first | refine blk_drewN ?_ _ | refine blk_drew ?_ | refine blk_alloc ?_ _)); exact a0.out⟩, ⟨zW HB.out⟩⟩
                   case rest =>
                    clear k6
                    try clear c1
                    try clear p2
                    try clear c3
                    try clear c4
                    try clear c5
                    try clear c6
                    try clear c7
                    try clear b4
                    try clear c8
                    try clear c9
                    try clear c10
                    try clear c11
                    try clear c12
                    try clear b8
                    try clear c13
                    try clear c14
                    try clear c15
                    try clear c16
                    try clear c31
                    try clear c39
                    try clear c46
                    try clear c50
                    try clear d9
                    try clear c52
                    try clear c60
                    try clear f2
                    try clear f5
                    try clear f6
                    try clear g4
                    try clear k1
                    try clear c80
                    try clear e0 e1 e2 e3
                    try clear e6 e7 e8 e9
                    try clear p2
                    obtain ⟨kq, k7, rfl, HA, x3, a1, a0, HB⟩ := hcut
                    cases kq with
                    | zero => exact absurd HA.out (by simp [laws_FnExactPutFile.j9])
                    | succ x4 =>
                     have H := HA.out; clear HA; simp only [laws_FnExactPutFile.j9] at H; have k8 := zA H; clear H
                     go_upto_if 100 with (fail)
                     go_cut [] (fun wc => ∃ (kq : Nat), Aside0 (laws_FnExactPutFile.j10 kq b2 g3 = some r) ∧ Aside0 (kq ≤ x4) ∧ Aside0 (Kd.R k31 31 wc w.heap.size (fun _ => True) (.slice d4 b2.length d5) b2) ∧ Aside0 (wc.heap[b7]? = some (.cells #[.string a4, .string a5] 24 (0, 0))) ∧ Aside0 (Below w.heap.size w wc))
                     case first =>
                      have H := k8.out; clear k8; replace H := zB0 H
                      rcases H with ⟨rfl, H⟩ | ⟨rfl, H⟩
                      ·exact absurd H (by simp)
                      have H' := zA H; clear H
                      go_wp2
                      go_meet
                      case rel => exact ⟨_, (by first | exact H' | (subst_vars; exact H')), ⟨by have := b9.out; have := d1.out; have := d8.out; have := e4.out; have := f0.out; have := f4.out; have := g2.out; have := g9.out; have := k2.out; have := x3.out; first | omega | exact Nat.le_refl _⟩, ⟨by (try simp only [d2]); (with_reducible repeat (first | apply Kd.R_alloc | apply Kd.R_drewN | apply Kd.R_drew)); exact a1.out⟩, ⟨by (try simp only [d2]); (with_reducible repeat (first | refine blk_drewN ?_ _ | refine blk_drew ?_ | refine blk_alloc ?_ _)); exact a0.out⟩, ⟨zW HB.out⟩⟩
                     case rest =>
                      clear k8
                      try clear c1
                      try clear p2
                      try clear c3
                      try clear c4
                      try clear c5
                      try clear c6
                      try clear c7
                      try clear b4
                      try clear c8
                      try clear c9
                      try clear c10
                      try clear c11
                      try clear c12
                      try clear b8
                      try clear c13
                      try clear c14
                      try clear c15
                      try clear c16
                      try clear c31
                      try clear c39
                      try clear c46
                      try clear c50
                      try clear d9
                      try clear c52
                      try clear c60
                      try clear f2
                      try clear f5
                      try clear f6
                      try clear g4
                      try clear k1
                      try clear c80
                      try clear c88
                      try clear e0 e1 e2 e3
                      try clear e6 e7 e8 e9
                      try clear p2
                      obtain ⟨kq, HA, C2, a1, a0, HB⟩ := hcut
                      cases kq with
                      | zero => exact absurd HA.out (by simp [laws_FnExactPutFile.j10])
                      | succ x5 =>
                       have H := HA.out; clear HA; simp only [laws_FnExactPutFile.j10] at H; replace H := Option.bind_eq_some_iff.mp H; obtain ⟨x6, n9, H⟩ := H
                       try dsimp only at H
                       have x7 := zA n9; clear n9; replace H := zI1 H
                       rcases H with ⟨k9, H⟩ | ⟨k9, H⟩
                       ·exact absurd H (by simp)
                       have C3 := decide_eq_false k9; clear k9; replace H := zC0 H; obtain ⟨l1, H⟩ := H; have C4 := beq_iff_eq.mpr l1; have C5 := bne_eq_false_iff_eq.mpr l1; clear l1; obtain rfl := zm H
                       go_wp2_with (first | ((with_reducible refine zq 16 ?_); refine zg (some 103) Tryd.func16 #[.slice d4 b2.length d5, .int .i64 1] ?_; (with_reducible refine (laws_heldFileS.calls x5 _ _ b2 1 x6 _ ?s1 ?s2 x7.out).mono ?_); (case s1 => repeat (first | exact (Kd.R_reads' a1.out).2.2 | (with_reducible refine Kd.C_alloc ?_ _) | (with_reducible refine Kd.C_drewN ?_ _) | (with_reducible refine Kd.C_drew ?_))); (case s2 => exact (Kd.R_reads' a1.out).2.1); rintro e C6 ⟨rfl, hb⟩; refine ⟨_, rfl, ?_⟩; replace a1 := zr a1 hb; replace a0 := zb a0 hb; replace HB := zh HB hb; (try clear hb)))
                       go_ret
                       exact ⟨zE, zW HB.out⟩
end Go.Proofs.YtbaeljcnbkeipaaDoor.PGC
