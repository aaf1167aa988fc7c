/- The walks of the functions that these laws reach, and what each comes to: printed by this session's program. -/
import Derived.Test.YtglhniiabhknoaaZGAPGAx0
import Derived.Test.YtglhniiabhknoaaZGAPGAx4
import Derived.Test.YtglhniiabhknoaaZGASays
import Derived.Test.YtglhniiabhknoaaZGARegs
namespace Go.Proofs.Ytglhniiabhknoaa.PGA
open Go.RowKit YtglhniiabhknoaaW.PrintWords YtglhniiabhknoaaW.PrintLast YtglhniiabhknoaaW.PrintMore
attribute [local go_sem high] Mine.str_gtr Mine.str_leq Mine.str_geq
attribute [local go_sem] max2_int min2_int max_two min_two max_three min_three max_four min_four   -- for this text's walks alone
set_option linter.unusedVariables false
set_option maxHeartbeats 8000000
set_option maxRecDepth 100000
set_option linter.unusedSimpArgs false
/-! ### laws_heldStringS: function 39 -/
def laws_heldStringS.l0 : Nat → List ByteArray → Int → Int → Option (Int)
 | 0, _, _, _ => none
 | k + 1, x0, x1, x5 => if x5 < (x0.length : Int) then (if 0 ≤ x5 then ((laws_markText.f k x1).bind fun a0 => (if (rdOf ByteArray.empty x0 x5).toList = a0.toList then (laws_heldStringS.l0 k x0 (wrap64 (x1 + 1)) (wrap64 (x5 + 1))) else (some (-1)))) else (none)) else (some x1)
def laws_heldStringS.f (k : Nat) (l0 : List ByteArray) (a1 : Int) : Option (Int) := laws_heldStringS.l0 k l0 a1 0
theorem laws_heldStringS.calls (k : Nat) (A0 : Option Addr) (c0 : Nat) (l0 : List ByteArray) (a1 r : Int) (w : World) (a9 : Kd.C Kd.string w A0 l0.length l0) (b0 : l0.length ≤ c0) (h : laws_heldStringS.f k l0 a1 = some r) :
  Calls Try.prog 39 #[.slice A0 l0.length c0, .int .i64 a1] w fun e w' => e = .returned (.int .i64 r) ∧ Below w.heap.size w w' := by
 have b1 := zA a9
 have b8 := zA b0
 clear a9 b0
 have HB := zA (Below.refl w.heap.size w)
 unfold laws_heldStringS.f at h
 have H := h
 clear h
 have H' := zA H
 clear H
 go_enter Try.func39, Try.ntmps39
 go_wp2
 go_loopg [1, 5] k (fun kq v1 v5 w' => ∃ (a4 : Int) (a0 : Int), v1 = .int .i64 a4 ∧ v5 = .int .i64 a0 ∧ Aside0 (laws_heldStringS.l0 kq l0 a4 a0 = some r) ∧ Aside0 (kq ≤ k) ∧ Aside0 (Below w.heap.size w w'))
 case atStart => exact ⟨(a1), (0), zS, zS, H', ⟨Nat.le_refl _⟩, ⟨zB⟩⟩
 case round =>
  clear H'
  try clear p2
  obtain ⟨a4, a0, rfl, rfl, HA, b2, HB⟩ := hrel
  cases gk with
  | zero => exact absurd HA.out (by simp [laws_heldStringS.l0])
  | succ k1 =>
   have H := HA.out; clear HA; simp only [laws_heldStringS.l0] at H; replace H := zI0 H
   rcases H with ⟨b5, H⟩ | ⟨b5, H⟩
   ·replace H := zD0 H; obtain ⟨b9, H⟩ := H; replace H := Option.bind_eq_some_iff.mp H; obtain ⟨b3, b4, H⟩ := H
    try dsimp only at H
    have A5 := zA b4; clear b4; replace H := zI1 H
    rcases H with ⟨c6, H⟩ | ⟨c6, H⟩
    ·have b6 := beq_iff_eq.mpr c6; have b7 := bne_eq_false_iff_eq.mpr c6; clear c6; have H' := zA H; clear H
     try go_wp2
     replace HB := zA (below_drew1 HB.out); have a5 : 0 ≤ (a0 : Int) := zD; have a6 : a0 < (l0.length : Int) := zD; obtain ⟨a7, a8, a2⟩ := Kd.at_string b1.out a0 a5 a6; have a3 := a2; cases a8; replace a2 := zx HB a2; replace a5 := eq_true a5; replace a6 := eq_true a6
     refine start_ (n := 7) (S := fun w' => w'.cell? (a7.add (a0).toNat) = some (.string (rdOf ByteArray.empty l0 a0))) (ds := []) (Array.replicate 7 false) (by kernel_rfl) rfl rfl (((HB.out.cell (World.block_lt_of_cell? w _ a3)).trans a3)) (fun hHeld => ?_)
     generalize wr.drew = w7 at HB a2 hHeld ⊢; refine zp 0 12 ?_; refine zp 1 13 ?_; refine zp 2 14 ?_; refine zp 4 16 ?_
     refine take_ (i := 3) (N := some 15) (v := ?_) (a' := ?_) #[true, true, true, true, true, false, false] rfl rfl (by kernel_rfl) (fun _ _ _ h => h) (Or.inl ⟨by rfl, ?_⟩) hHeld ?_ ?_
     rotate_left
     ·intro w' s0
      go_simp
      with_reducible rfl
     rotate_left
     ·simp only [Act.put, zT, i64_w, i32_w]
      rfl
     refine zo 5 (some 17) fun K hK => ?_
     refine goes_ Try.func60 (by kernel_rfl) rfl #[.int .i64 a4] (by rfl) rfl rfl zM ?_
     with_reducible refine (laws_markText.calls k1 a4 b3 _ A5.out).mono ?_
     rintro e w8 ⟨rfl, hb⟩
     refine ⟨_, rfl, ?_⟩
     replace HB := zA (below_step (zB) hb)
     (try clear hb)
     refine hK.out _ _ (((HB.out.cell (World.block_lt_of_cell? w _ a3)).trans a3)) (fun hHeld => ?_)
     clear hK K; refine zn ?_; refine zp 6 18 ?_
     refine done_ (by kernel_rfl) ?_
     try go_wp2
     go_roundg k1
     case measure => have := b2.out; omega
     case rel => exact ⟨(wrap64 (a4 + 1)), (wrap64 (a0 + 1)), zS, zS, H', ⟨by have := b2.out; omega⟩, ⟨zB⟩⟩
    have b6 := beq_eq_false_iff_ne.mpr c6; have b7 := bne_iff_ne.mpr c6; obtain rfl := zm H
    try go_wp2
    replace HB := zA (below_drew1 HB.out); have a5 : 0 ≤ (a0 : Int) := zD; have a6 : a0 < (l0.length : Int) := zD; obtain ⟨a7, a8, a2⟩ := Kd.at_string b1.out a0 a5 a6; have a3 := a2; cases a8; replace a2 := zx HB a2; replace a5 := eq_true a5; replace a6 := eq_true a6
    refine start_ (n := 7) (S := fun w' => w'.cell? (a7.add (a0).toNat) = some (.string (rdOf ByteArray.empty l0 a0))) (ds := []) (Array.replicate 7 false) (by kernel_rfl) rfl rfl (((HB.out.cell (World.block_lt_of_cell? w _ a3)).trans a3)) (fun hHeld => ?_)
    generalize wr.drew = w9 at HB a2 hHeld ⊢; refine zp 0 12 ?_; refine zp 1 13 ?_; refine zp 2 14 ?_; refine zp 4 16 ?_
    refine take_ (i := 3) (N := some 15) (v := ?_) (a' := ?_) #[true, true, true, true, true, false, false] rfl rfl (by kernel_rfl) (fun _ _ _ h => h) (Or.inl ⟨by rfl, ?_⟩) hHeld ?_ ?_
    rotate_left
    ·intro w' s0
     go_simp
     with_reducible rfl
    rotate_left
    ·simp only [Act.put, zT, i64_w, i32_w]
     rfl
    refine zo 5 (some 17) fun K hK => ?_
    refine goes_ Try.func60 (by kernel_rfl) rfl #[.int .i64 a4] (by rfl) rfl rfl zM ?_
    with_reducible refine (laws_markText.calls k1 a4 b3 _ A5.out).mono ?_
    rintro e c1 ⟨rfl, hb⟩
    refine ⟨_, rfl, ?_⟩
    replace HB := zA (below_step (zB) hb)
    (try clear hb)
    refine hK.out _ _ (((HB.out.cell (World.block_lt_of_cell? w _ a3)).trans a3)) (fun hHeld => ?_)
    clear hK K; refine zn ?_; refine zp 6 18 ?_
    refine done_ (by kernel_rfl) ?_
    try go_wp2
    go_ret
    exact ⟨zE, zB⟩
   obtain rfl := zm H
   go_wp2
   go_ret
   exact ⟨zE, zB⟩
/-! ### laws_heldValS: function 38 -/
mutual
def laws_heldValS.l0 : Nat → List (S29) → Int → Int → Option (Int)
 | 0, _, _, _ => none
 | k + 1, x0, x1, x5 => if x5 < (x0.length : Int) then (laws_heldValS.j1 k x0 x1 x5) else (some x1)
def laws_heldValS.j1 : Nat → List (S29) → Int → Int → Option (Int)
 | 0, _, _, _ => none
 | k + 1, x0, x1, x5 => if 0 ≤ x5 then (if x5 < (x0.length : Int) then (if ((rd_T29 x0 x5).f0) = x1 then (laws_heldValS.j2 k x0 x1 x5) else (some (-1))) else (none)) else (none)
def laws_heldValS.j2 : Nat → List (S29) → Int → Int → Option (Int)
 | 0, _, _, _ => none
 | k + 1, x0, x1, x5 => if 0 ≤ x5 then (if x5 < (x0.length : Int) then (if ((rd_T29 x0 x5).f1) = (wrap64 (x1 + 1)) then (laws_heldValS.j3 k x0 (wrap64 (x1 + 1)) x5) else (some (-1))) else (none)) else (none)
def laws_heldValS.j3 : Nat → List (S29) → Int → Int → Option (Int)
 | 0, _, _, _ => none
 | k + 1, x0, x1, x5 => if 0 ≤ x5 then (if x5 < (x0.length : Int) then ((laws_markText.f k (wrap64 (x1 + 1))).bind fun a3 => (if ((rd_T29 x0 x5).f2).toList = a3.toList then (laws_heldValS.j4 k x0 (wrap64 (x1 + 1)) x5) else (some (-1)))) else (none)) else (none)
def laws_heldValS.j4 : Nat → List (S29) → Int → Int → Option (Int)
 | 0, _, _, _ => none
 | k + 1, x0, x1, x5 => if 0 ≤ x5 then (if x5 < (x0.length : Int) then ((laws_heldValS.f k ((rd_T29 x0 x5).f3) (wrap64 (x1 + 1))).bind fun a0 => (if a0 < 0 then (some (-1)) else ((laws_heldStringS.f k ((rd_T29 x0 x5).f4) a0).bind fun a2 => (if a2 < 0 then (some (-1)) else (laws_heldValS.l0 k x0 a2 (wrap64 (x5 + 1))))))) else (none)) else (none)
def laws_heldValS.f : Nat → List (S29) → Int → Option (Int)
 | 0, _, _ => none
 | k + 1, l0, a1 => laws_heldValS.l0 k l0 a1 0
end
def laws_heldValS.T10 : Bool × List (List Nat × List Nat) := (true, [([], []), ([], []), ([0, 1], [0, 1]), ([2], [2]), ([3], [3]), ([], []), ([5], [5]), ([4, 6], [4, 6])])
def laws_heldValS.B10 : List Nat := [0, 0, 3, 7, 15, 0, 32, 127]
theorem laws_heldValS.tab10 : rtab .any (opsOf Try.f38 10) = laws_heldValS.T10 := by kernel_rfl
theorem laws_heldValS.bits10 : waitsOk laws_heldValS.T10.2 laws_heldValS.B10 = true := by kernel_rfl
theorem laws_heldValS.calls (k : Nat) : ∀ (A0 : Option Addr) (c0 : Nat) (l0 : List (S29)) (a1 r : Int) (w : World) (i2 : Kd.C k29 w A0 l0.length l0) (i3 : l0.length ≤ c0) (h : laws_heldValS.f k l0 a1 = some r),
  Calls Try.prog 38 #[.slice A0 l0.length c0, .int .i64 a1] w fun e w' => e = .returned (.int .i64 r) ∧ Below w.heap.size w w' := by
 induction k using Nat.strongRecOn with
 | _ k ih =>
 intro A0 c0 l0 a1 r w i2 i3 h
 cases k with
 | zero => exact absurd h (by simp [laws_heldValS.f])
 | succ k =>
 simp only [laws_heldValS.f] at h
 have a8 := zA i2
 have p3 := zA i3
 clear i2 i3
 have HB := zA (Below.refl w.heap.size w)
 have H := h
 clear h
 have H' := zA H
 clear H
 go_enter Try.func38, Try.ntmps38
 go_wp2
 go_loopg [1, 5] k (fun kq v1 v5 w' => ∃ (a3 : Int) (a0 : Int), v1 = .int .i64 a3 ∧ v5 = .int .i64 a0 ∧ Aside0 (laws_heldValS.l0 kq l0 a3 a0 = some r) ∧ Aside0 (kq ≤ k) ∧ Aside0 (Below w.heap.size w w'))
 case atStart => exact ⟨(a1), (0), zS, zS, H', ⟨Nat.le_refl _⟩, ⟨zB⟩⟩
 case round =>
  clear H'
  try clear p2
  obtain ⟨a3, a0, rfl, rfl, HA, a6, HB⟩ := hrel
  cases gk with
  | zero => exact absurd HA.out (by simp [laws_heldValS.l0])
  | succ k1 =>
   have H := HA.out; clear HA; simp only [laws_heldValS.l0] at H; have i4 := zA H; clear H
   go_upto_if 9 with (fail)
   go_cut [] (fun wc => ∃ (kq : Nat), Aside0 (laws_heldValS.j1 kq l0 a3 a0 = some r) ∧ Aside0 (kq ≤ k1) ∧ Aside0 (Below w.heap.size w wc))
   case first =>
    have H := i4.out; clear i4; replace H := zI0 H
    rcases H with ⟨a7, H⟩ | ⟨a7, H⟩
    ·(first | rw [a7] | (simp only [i64_w, i32_w]; rw [a7]) | skip)
     have H' := zA H; clear H
     go_wp2
     go_meet
     case rel => exact ⟨_, (by first | exact H' | (subst_vars; exact H')), ⟨by have := a6.out; first | omega | exact Nat.le_refl _⟩, ⟨zB⟩⟩
    (first | rw [a7] | (simp only [i64_w, i32_w]; rw [a7]) | skip)
    obtain rfl := zm H
    go_wp2
    go_ret
    exact ⟨zE, zB⟩
   case rest =>
    clear i4
    try clear p2
    try clear c3
    try clear c4
    try clear a7
    try clear p2
    obtain ⟨kq, HA, a9, HB⟩ := hcut
    cases kq with
    | zero => exact absurd HA.out (by simp [laws_heldValS.j1])
    | succ m9 =>
     have H := HA.out; clear HA; simp only [laws_heldValS.j1] at H; replace H := zD0 H; obtain ⟨i5, H⟩ := H; replace H := zD0 H; obtain ⟨i6, H⟩ := H; have i7 := zA H; clear H; have d6 : 0 ≤ (a0 : Int) := zD; have d7 : a0 < (l0.length : Int) := zD; obtain ⟨a2, p4, p5, p7, p8, n0, e1, e2, e3, e4, e5, k4, k5, k6, k7⟩ := at_T29 a8.out a0 d6 d7; cases n0; replace e1 := zx HB e1; replace e2 := zx HB e2; replace e3 := zx HB e3; replace e4 := zx HB e4; replace e5 := zx HB e5; have p9 := zA k5; have q0 := zA k4; clear k5 k4; have q1 := zA k7; have q3 := zA k6; clear k7 k6; replace d6 := eq_true d6; replace d7 := eq_true d7
     go_upto_if 18 with (fail)
     go_cut [] (fun wc => ∃ (kq : Nat), Aside0 (laws_heldValS.j2 kq l0 a3 a0 = some r) ∧ Aside0 (kq ≤ m9) ∧ Aside0 (Below w.heap.size w wc))
     case first =>
      have H := i7.out; clear i7; replace H := zI1 H
      rcases H with ⟨c8, H⟩ | ⟨c8, H⟩
      ·have b0 := beq_iff_eq.mpr c8; have h4 := bne_eq_false_iff_eq.mpr c8; clear c8
       (first | rw [b0] | (simp only [i64_w, i32_w]; rw [b0]) | skip)
       have H' := zA H; clear H
       go_wp2
       go_meet
       case rel => exact ⟨_, (by first | exact H' | (subst_vars; exact H')), ⟨by have := a6.out; have := a9.out; first | omega | exact Nat.le_refl _⟩, ⟨zB⟩⟩
      have b0 := beq_eq_false_iff_ne.mpr c8; have h4 := bne_iff_ne.mpr c8
      (first | rw [b0] | (simp only [i64_w, i32_w]; rw [b0]) | skip)
      obtain rfl := zm H
      go_wp2
      go_ret
      exact ⟨zE, zB⟩
     case rest =>
      clear i7
      try clear c2
      try clear p2
      try clear q2
      try clear hx2
      try clear c3
      try clear c4
      try clear a7
      try clear c5
      try clear i5
      try clear c6
      try clear i6
      try clear c8
      try clear b0
      try clear h4
      try clear e1
      try clear e2
      try clear e3
      try clear e4
      try clear e5
      try clear p2
      try clear d6
      try clear d7
      obtain ⟨kq, HA, d0, HB⟩ := hcut
      cases kq with
      | zero => exact absurd HA.out (by simp [laws_heldValS.j2])
      | succ n1 =>
       have H := HA.out; clear HA; simp only [laws_heldValS.j2] at H; replace H := zD0 H; obtain ⟨k8, H⟩ := H; replace H := zD0 H; obtain ⟨k9, H⟩ := H; have i8 := zA H; clear H; have e6 : 0 ≤ (a0 : Int) := zD; have e7 : a0 < (l0.length : Int) := zD; obtain ⟨n2, q4, q5, q6, q7, n3, h5, h6, h7, h8, h9, l1, l2, l3, l4⟩ := at_T29 a8.out a0 e6 e7; obtain rfl : a2 = n2 := (by injection n3); replace h5 := zx HB h5; replace h6 := zx HB h6; replace h7 := zx HB h7; replace h8 := zx HB h8; replace h9 := zx HB h9; have q8 := zA l2; have q9 := zA l1; clear l2 l1; have r0 := zA l4; have r1 := zA l3; clear l4 l3; replace e6 := eq_true e6; replace e7 := eq_true e7
       go_upto_if 27 with (fail)
       go_cut [] (fun wc => ∃ (kq : Nat), Aside0 (laws_heldValS.j3 kq l0 (wrap64 (a3 + 1)) a0 = some r) ∧ Aside0 (kq ≤ n1) ∧ Aside0 (Below w.heap.size w wc))
       case first =>
        have H := i8.out; clear i8; replace H := zI1 H
        rcases H with ⟨b1, H⟩ | ⟨b1, H⟩
        ·have d1 := beq_iff_eq.mpr b1; have i9 := bne_eq_false_iff_eq.mpr b1; clear b1
         (first | rw [d1] | (simp only [i64_w, i32_w]; rw [d1]) | skip)
         have H' := zA H; clear H
         go_wp2
         go_meet
         case rel => exact ⟨_, (by first | exact H' | (subst_vars; exact H')), ⟨by have := a6.out; have := a9.out; have := d0.out; first | omega | exact Nat.le_refl _⟩, ⟨zB⟩⟩
        have d1 := beq_eq_false_iff_ne.mpr b1; have i9 := bne_iff_ne.mpr b1
        (first | rw [d1] | (simp only [i64_w, i32_w]; rw [d1]) | skip)
        obtain rfl := zm H
        go_wp2
        go_ret
        exact ⟨zE, zB⟩
       case rest =>
        clear i8
        try clear c1
        try clear c2
        try clear p2
        try clear q2
        try clear hx2
        try clear c3
        try clear c4
        try clear a7
        try clear c5
        try clear i5
        try clear c6
        try clear i6
        try clear p6
        try clear c8
        try clear b0
        try clear h4
        try clear c9
        try clear k8
        try clear c10
        try clear k9
        try clear b1
        try clear d1
        try clear i9
        try clear e1
        try clear e2
        try clear e3
        try clear e4
        try clear e5
        try clear h5
        try clear h6
        try clear h7
        try clear h8
        try clear h9
        try clear p2
        try clear d6
        try clear e6
        try clear q2
        try clear d7
        try clear e7
        obtain ⟨kq, HA, d8, HB⟩ := hcut
        cases kq with
        | zero => exact absurd HA.out (by simp [laws_heldValS.j3])
        | succ l5 =>
         have H := HA.out; clear HA; simp only [laws_heldValS.j3] at H; replace H := zD0 H; obtain ⟨n4, H⟩ := H; replace H := zD0 H; obtain ⟨n5, H⟩ := H; replace H := Option.bind_eq_some_iff.mp H; obtain ⟨n6, l6, H⟩ := H
         try dsimp only at H
         have n7 := zA l6; clear l6; have j0 := zA H; clear H
         try go_wp2
         replace HB := zA (below_drew1 HB.out); have i0 : 0 ≤ (a0 : Int) := zD; have i1 : a0 < (l0.length : Int) := zD; obtain ⟨n8, n9, o0, o1, o2, o3, e8, e9, f5, f6, f7, l7, l8, l9, m0⟩ := at_T29 a8.out a0 i0 i1; have r2 := f7; have r3 := f6; have r4 := f5; have r5 := e9; have r6 := e8; obtain rfl : a2 = n8 := (by injection o3); replace e8 := zx HB e8; replace e9 := zx HB e9; replace f5 := zx HB f5; replace f6 := zx HB f6; replace f7 := zx HB f7; have o4 := zA l8; have r7 := zA l7; clear l8 l7; have o5 := zA m0; have r8 := zA l9; clear m0 l9; replace i0 := eq_true i0; replace i1 := eq_true i1
         refine start_ (n := 8) (S := fun w' => w'.cell? (a2.add ((a0).toNat * 5)) = some (.int .i64 ((rd_T29 l0 a0).f0)) ∧ w'.cell? ⟨(a2.add ((a0).toNat * 5)).block, (a2.add ((a0).toNat * 5)).off + 1, none⟩ = some (.int .i64 ((rd_T29 l0 a0).f1)) ∧ w'.cell? ⟨(a2.add ((a0).toNat * 5)).block, (a2.add ((a0).toNat * 5)).off + 2, none⟩ = some (.string ((rd_T29 l0 a0).f2)) ∧ w'.cell? ⟨(a2.add ((a0).toNat * 5)).block, (a2.add ((a0).toNat * 5)).off + 3, none⟩ = some (.slice n9 ((rd_T29 l0 a0).f3).length o0) ∧ w'.cell? ⟨(a2.add ((a0).toNat * 5)).block, (a2.add ((a0).toNat * 5)).off + 4, none⟩ = some (.slice o1 ((rd_T29 l0 a0).f4).length o2)) (ds := []) (Array.replicate 8 false) (by kernel_rfl) rfl rfl zO fun hHeld => ?_; refine with_tabW laws_heldValS.tab10 laws_heldValS.bits10 (fun HT_ HW_ => ?_)
         generalize wc.drew = r9 at HB o4 o5 e8 e9 f5 f6 f7 hHeld ⊢; refine zp 0 30 ?_; refine zp 1 31 ?_; refine zp 2 32 ?_; refine zp 3 33 ?_; refine zp 5 35 ?_; refine zt 4 34 ?_
         refine zo 6 (some 36) fun K hK => ?_
         refine goes_ Try.func60 (by kernel_rfl) rfl #[.int .i64 (wrap64 ((wrap64 (a3 + 1)) + 1))] (by rfl) rfl rfl zM ?_
         with_reducible refine (laws_markText.calls l5 (wrap64 ((wrap64 (a3 + 1)) + 1)) n6 _ n7.out).mono ?_
         rintro e t0 ⟨rfl, hb⟩
         refine ⟨_, rfl, ?_⟩
         replace HB := zA (below_step (zB) hb)
         (try clear hb)
         refine hK.out _ _ zO fun hHeld => ?_
         clear hK K; refine zn ?_; refine zp 7 37 ?_
         refine done_ (done_of HT_.out (by kernel_rfl)) ?_
         go_upto_if 37 with (fail)
         go_cut [] (fun wc => ∃ (kq : Nat), Aside0 (laws_heldValS.j4 kq l0 (wrap64 ((wrap64 (a3 + 1)) + 1)) a0 = some r) ∧ Aside0 (kq ≤ l5) ∧ Aside0 (Below w.heap.size w wc))
         case first =>
          have H := j0.out; clear j0; replace H := zI1 H
          rcases H with ⟨d2, H⟩ | ⟨d2, H⟩
          ·have d9 := beq_iff_eq.mpr d2; have m1 := bne_eq_false_iff_eq.mpr d2; clear d2
           (first | rw [d9] | (simp only [i64_w, i32_w]; rw [d9]) | skip)
           have H' := zA H; clear H
           go_wp2
           go_meet
           case rel => exact ⟨_, (by first | exact H' | (subst_vars; exact H')), ⟨by have := a6.out; have := a9.out; have := d0.out; have := d8.out; first | omega | exact Nat.le_refl _⟩, ⟨zB⟩⟩
          have d9 := beq_eq_false_iff_ne.mpr d2; have m1 := bne_iff_ne.mpr d2
          (first | rw [d9] | (simp only [i64_w, i32_w]; rw [d9]) | skip)
          obtain rfl := zm H
          go_wp2
          go_ret
          exact ⟨zE, zB⟩
         case rest =>
          clear j0
          try clear c1
          try clear c2
          try clear p2
          try clear q2
          try clear hx2
          try clear c3
          try clear c4
          try clear a7
          try clear c5
          try clear i5
          try clear c6
          try clear i6
          try clear p6
          try clear c8
          try clear b0
          try clear h4
          try clear c9
          try clear k8
          try clear c10
          try clear k9
          try clear b1
          try clear d1
          try clear i9
          try clear c13
          try clear n4
          try clear c14
          try clear n5
          try clear d2
          try clear d9
          try clear m1
          try clear e1
          try clear e2
          try clear e3
          try clear e4
          try clear e5
          try clear h5
          try clear h6
          try clear h7
          try clear h8
          try clear h9
          try clear e8
          try clear e9
          try clear f5
          try clear f6
          try clear f7
          try clear p2
          try clear d6
          try clear e6
          try clear i0
          try clear p6
          try clear q2
          try clear d7
          try clear e7
          try clear i1
          obtain ⟨kq, HA, f8, HB⟩ := hcut
          cases kq with
          | zero => exact absurd HA.out (by simp [laws_heldValS.j4])
          | succ e0 =>
           have H := HA.out; clear HA; simp only [laws_heldValS.j4] at H; replace H := zD0 H; obtain ⟨t1, H⟩ := H; replace H := zD0 H; obtain ⟨t2, H⟩ := H; replace H := Option.bind_eq_some_iff.mp H; obtain ⟨d3, m2, H⟩ := H
           try dsimp only at H
           have j5 := zA m2; clear m2; replace H := zI0 H
           rcases H with ⟨o6, H⟩ | ⟨o6, H⟩
           ·obtain rfl := zm H; have a4 : 0 ≤ (a0 : Int) := zD; have a5 : a0 < (l0.length : Int) := zD; obtain ⟨f9, g0, g1, m3, m4, g2, b2, b3, b4, b5, b6, b7, b8, b9, c7⟩ := at_T29 a8.out a0 a4 a5; obtain rfl : a2 = f9 := (by injection g2); replace b2 := zx HB b2; replace b3 := zx HB b3; replace b4 := zx HB b4; replace b5 := zx HB b5; replace b6 := zx HB b6; have g3 := zA b8; have g4 := zA b7; clear b8 b7; have m5 := zA c7; have m6 := zA b9; clear c7 b9; replace a4 := eq_true a4; replace a5 := eq_true a5
            go_wp2_with (first | ((with_reducible refine zq 38 ?_); refine zg (some 46) Try.func38 #[.slice g0 ((rd_T29 l0 a0).f3).length g1, .int .i64 (wrap64 ((wrap64 ((wrap64 (a3 + 1)) + 1)) + 1))] ?_; (with_reducible refine (ih e0 (by have := a6.out; have := a9.out; have := d0.out; have := d8.out; have := f8.out; omega) _ _ ((rd_T29 l0 a0).f3) (wrap64 ((wrap64 ((wrap64 (a3 + 1)) + 1)) + 1)) d3 _ ?s1 ?s2 j5.out).mono ?_); (case s1 => exact zC (Kd.C_below g3.out HB.out)); (case s2 => exact g4.out); rintro e t3 ⟨rfl, hb⟩; refine ⟨_, rfl, ?_⟩; replace HB := zA (below_step (zB) hb); (try clear hb)))
            go_ret
            exact ⟨zE, zB⟩
           replace H := Option.bind_eq_some_iff.mp H; obtain ⟨j6, m7, H⟩ := H
           try dsimp only at H
           have m8 := zA m7; clear m7; replace H := zI0 H
           rcases H with ⟨o7, H⟩ | ⟨o7, H⟩
           ·obtain rfl := zm H; have a4 : 0 ≤ (a0 : Int) := zD; have a5 : a0 < (l0.length : Int) := zD; obtain ⟨f9, g0, g1, m3, m4, g2, b2, b3, b4, b5, b6, b7, b8, b9, c7⟩ := at_T29 a8.out a0 a4 a5; obtain rfl : a2 = f9 := (by injection g2); replace b2 := zx HB b2; replace b3 := zx HB b3; replace b4 := zx HB b4; replace b5 := zx HB b5; replace b6 := zx HB b6; have g3 := zA b8; have g4 := zA b7; clear b8 b7; have m5 := zA c7; have m6 := zA b9; clear c7 b9; replace a4 := eq_true a4; replace a5 := eq_true a5
            go_wp2_with (first | ((with_reducible refine zq 38 ?_); refine zg (some 46) Try.func38 #[.slice g0 ((rd_T29 l0 a0).f3).length g1, .int .i64 (wrap64 ((wrap64 ((wrap64 (a3 + 1)) + 1)) + 1))] ?_; (with_reducible refine (ih e0 (by have := a6.out; have := a9.out; have := d0.out; have := d8.out; have := f8.out; omega) _ _ ((rd_T29 l0 a0).f3) (wrap64 ((wrap64 ((wrap64 (a3 + 1)) + 1)) + 1)) d3 _ ?s1 ?s2 j5.out).mono ?_); (case s1 => exact zC (Kd.C_below g3.out HB.out)); (case s2 => exact g4.out); rintro e t4 ⟨rfl, hb⟩; refine ⟨_, rfl, ?_⟩; replace HB := zA (below_step (zB) hb); (try clear hb); have d4 : 0 ≤ (a0 : Int) := zD; have d5 : a0 < (l0.length : Int) := zD; obtain ⟨j7, o8, o9, j8, j9, k0, g5, g6, g7, g8, g9, h0, h1, h2, h3⟩ := at_T29 a8.out a0 d4 d5; obtain rfl : a2 = j7 := (by injection k0); replace g5 := zx HB g5; replace g6 := zx HB g6; replace g7 := zx HB g7; replace g8 := zx HB g8; replace g9 := zx HB g9; have p0 := zA h1; have p1 := zA h0; clear h1 h0; have k2 := zA h3; have k3 := zA h2; clear h3 h2; replace d4 := eq_true d4; replace d5 := eq_true d5) | ((with_reducible refine zq 39 ?_); refine zg (some 55) Try.func39 #[.slice j8 ((rd_T29 l0 a0).f4).length j9, .int .i64 d3] ?_; (with_reducible refine (laws_heldStringS.calls e0 _ _ ((rd_T29 l0 a0).f4) d3 j6 _ ?s1 ?s2 m8.out).mono ?_); (case s1 => exact zC (Kd.C_below k2.out HB.out)); (case s2 => exact k3.out); rintro e t5 ⟨rfl, hb⟩; refine ⟨_, rfl, ?_⟩; replace HB := zA (below_step (zB) hb); (try clear hb)))
            go_ret
            exact ⟨zE, zB⟩
           have H' := zA H; clear H; have a4 : 0 ≤ (a0 : Int) := zD; have a5 : a0 < (l0.length : Int) := zD; obtain ⟨f9, g0, g1, m3, m4, g2, b2, b3, b4, b5, b6, b7, b8, b9, c7⟩ := at_T29 a8.out a0 a4 a5; obtain rfl : a2 = f9 := (by injection g2); replace b2 := zx HB b2; replace b3 := zx HB b3; replace b4 := zx HB b4; replace b5 := zx HB b5; replace b6 := zx HB b6; have g3 := zA b8; have g4 := zA b7; clear b8 b7; have m5 := zA c7; have m6 := zA b9; clear c7 b9; replace a4 := eq_true a4; replace a5 := eq_true a5
           go_wp2_with (first | ((with_reducible refine zq 38 ?_); refine zg (some 46) Try.func38 #[.slice g0 ((rd_T29 l0 a0).f3).length g1, .int .i64 (wrap64 ((wrap64 ((wrap64 (a3 + 1)) + 1)) + 1))] ?_; (with_reducible refine (ih e0 (by have := a6.out; have := a9.out; have := d0.out; have := d8.out; have := f8.out; omega) _ _ ((rd_T29 l0 a0).f3) (wrap64 ((wrap64 ((wrap64 (a3 + 1)) + 1)) + 1)) d3 _ ?s1 ?s2 j5.out).mono ?_); (case s1 => exact zC (Kd.C_below g3.out HB.out)); (case s2 => exact g4.out); rintro e t6 ⟨rfl, hb⟩; refine ⟨_, rfl, ?_⟩; replace HB := zA (below_step (zB) hb); (try clear hb); have d4 : 0 ≤ (a0 : Int) := zD; have d5 : a0 < (l0.length : Int) := zD; obtain ⟨j7, o8, o9, j8, j9, k0, g5, g6, g7, g8, g9, h0, h1, h2, h3⟩ := at_T29 a8.out a0 d4 d5; obtain rfl : a2 = j7 := (by injection k0); replace g5 := zx HB g5; replace g6 := zx HB g6; replace g7 := zx HB g7; replace g8 := zx HB g8; replace g9 := zx HB g9; have p0 := zA h1; have p1 := zA h0; clear h1 h0; have k2 := zA h3; have k3 := zA h2; clear h3 h2; replace d4 := eq_true d4; replace d5 := eq_true d5) | ((with_reducible refine zq 39 ?_); refine zg (some 55) Try.func39 #[.slice j8 ((rd_T29 l0 a0).f4).length j9, .int .i64 d3] ?_; (with_reducible refine (laws_heldStringS.calls e0 _ _ ((rd_T29 l0 a0).f4) d3 j6 _ ?s1 ?s2 m8.out).mono ?_); (case s1 => exact zC (Kd.C_below k2.out HB.out)); (case s2 => exact k3.out); rintro e t7 ⟨rfl, hb⟩; refine ⟨_, rfl, ?_⟩; replace HB := zA (below_step (zB) hb); (try clear hb)))
           go_roundg e0
           case measure => have := a6.out; have := a9.out; have := d0.out; have := d8.out; have := f8.out; omega
           case rel => exact ⟨(j6), (wrap64 (a0 + 1)), zS, zS, H', ⟨by have := a6.out; have := a9.out; have := d0.out; have := d8.out; have := f8.out; omega⟩, ⟨zB⟩⟩
/-! ### laws_heldVal: function 12 -/
def laws_heldVal.f (k : Nat) (a5 a6 : Int) (a7 : ByteArray) (a3 : List (S29)) (a4 : List ByteArray) (a1 : Int) : Option (Int) := (laws_heldValS.f k a3 a1).bind fun a0 => (if a0 < 0 then (some (-1)) else ((laws_heldStringS.f k a4 a0).bind fun a2 => (if a2 < 0 then (some (-1)) else (some a2))))
theorem laws_heldVal.calls (k : Nat) (a9 b0 : Int) (b1 : ByteArray) (a5 : Option Addr) (a6 : Nat) (a0 : List (S29)) (a7 : Option Addr) (a8 : Nat) (a2 : List ByteArray) (a1 r : Int) (w : World) (b4 : Kd.C k29 w a5 a0.length a0) (b5 : a0.length ≤ a6) (b6 : Kd.C Kd.string w a7 a2.length a2) (b7 : a2.length ≤ a8) (h : laws_heldVal.f k a9 b0 b1 a0 a2 a1 = some r) :
  Calls Try.prog 12 #[.agg #[.int .i64 a9, .int .i64 b0, .string b1, .slice a5 a0.length a6, .slice a7 a2.length a8], .int .i64 a1] w fun e w' => e = .returned (.int .i64 r) ∧ Below w.heap.size w w' := by
 have c5 := Try.underlying29
 have c0 := zA b4
 have c1 := zA b5
 clear b4 b5
 have c2 := zA b6
 have c3 := zA b7
 clear b6 b7
 have HB := zA (Below.refl w.heap.size w)
 unfold laws_heldVal.f at h
 have H := h
 clear h
 replace H := Option.bind_eq_some_iff.mp H
 obtain ⟨b2, b8, H⟩ := H
 try dsimp only at H
 have A3 := zA b8
 clear b8
 go_enter Try.func12, Try.ntmps12
 go_upto_if 10 with (first | ((with_reducible refine zd 2 ?_); refine ze 2 29 #[.int .i64 a9, .int .i64 b0, .string b1, .slice a5 a0.length a6, .slice a7 a2.length a8] ?_; intro c6 hg w5 hbox hb; have a4 := zA (hbox); have c7 := zi HB hg; have c8 := zi HB hg; replace HB := zA (below_step (zB) hb); clear hb hbox hg; obtain ⟨c9, d0, d1, d2, d3, d4, d5, d6, d7, d8⟩ := ze5 a4.out) | ((with_reducible refine zq 38 ?_); refine zg (some 8) Try.func38 #[.slice a5 a0.length a6, .int .i64 a1] ?_; (with_reducible refine (laws_heldValS.calls k _ _ a0 a1 b2 _ ?s1 ?s2 A3.out).mono ?_); (case s1 => exact zC (Kd.C_below c0.out HB.out)); (case s2 => exact c1.out); rintro e w7 ⟨rfl, hb⟩; refine ⟨_, rfl, ?_⟩; replace a4 := zb a4 hb; replace HB := zh HB hb; (try clear hb)))
 (try simp only [Act.put, zT])
 replace H := zI0 H
 rcases H with ⟨a3, H⟩ | ⟨a3, H⟩
 ·obtain rfl := zm H
  (try simp only [a3])
  go_wp2
  go_ret
  exact ⟨zE, zW HB.out⟩
 replace H := Option.bind_eq_some_iff.mp H
 obtain ⟨c4, b9, H⟩ := H
 try dsimp only at H
 have A8 := zA b9
 clear b9
 obtain ⟨d9, e0, e1, e2, e3, e4, e5, e6, e7, e8⟩ := ze5 a4.out
 (try simp only [a3, a3])
 go_upto_if 16 with (first | ((with_reducible refine zq 39 ?_); refine zg (some 14) Try.func39 #[.slice a7 a2.length a8, .int .i64 b2] ?_; (with_reducible refine (laws_heldStringS.calls k _ _ a2 b2 c4 _ ?s1 ?s2 A8.out).mono ?_); (case s1 => exact zC (Kd.C_below c2.out HB.out)); (case s2 => exact c3.out); rintro e e9 ⟨rfl, hb⟩; refine ⟨_, rfl, ?_⟩; replace a4 := zb a4 hb; replace HB := zh HB hb; (try clear hb)))
 (try simp only [Act.put, zT])
 replace H := zI0 H
 rcases H with ⟨b3, H⟩ | ⟨b3, H⟩
 ·obtain rfl := zm H
  (try simp only [a3, a3, b3])
  go_wp2
  go_ret
  exact ⟨zE, zW HB.out⟩
 obtain rfl := zm H
 (try simp only [a3, a3, b3])
 go_wp2
 go_ret
 exact ⟨zE, zW HB.out⟩
end Go.Proofs.Ytglhniiabhknoaa.PGA
