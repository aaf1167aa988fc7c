/- The walks of the functions that these laws reach, and what each comes to: printed by this session's program. -/
import Derived.Test.YtbaeljcnbkeipaaZGCPGCx0
import Derived.Test.YtbaeljcnbkeipaaZGCPGCx4
import Derived.Test.YtbaeljcnbkeipaaZGCSays
import Derived.Test.YtbaeljcnbkeipaaZGCRegs
namespace Go.Proofs.Ytbaeljcnbkeipaa.PGC
open Go.RowKit YtbaeljcnbkeipaaW.PrintWords YtbaeljcnbkeipaaW.PrintLast YtbaeljcnbkeipaaW.PrintMore
attribute [local go_sem high] Mine.str_gtr Mine.str_leq Mine.str_geq
attribute [local go_sem] max2_int min2_int max_two min_two max_three min_three max_four min_four   -- for this text's walks alone
set_option linter.unusedVariables false
set_option maxHeartbeats 8000000
set_option maxRecDepth 100000
set_option linter.unusedSimpArgs false
/-! ### laws_eqNeedS: function 56 -/
mutual
def laws_eqNeedS.j0 : Nat → List (S94) → List (S94) → Option (Bool)
 | 0, _, _ => none
 | k + 1, x0, x1 => laws_eqNeedS.l0 k x0 x1 0
def laws_eqNeedS.l0 : Nat → List (S94) → List (S94) → Int → Option (Bool)
 | 0, _, _, _ => none
 | k + 1, x0, x1, x5 => if x5 < (x0.length : Int) then (if 0 ≤ x5 then (if x5 < (x1.length : Int) then ((laws_eqNeed.f ((rd_T94 x0 x5).f0) ((rd_T94 x0 x5).f1) ((rd_T94 x1 x5).f0) ((rd_T94 x1 x5).f1)).bind fun a0 => (if a0 = true then (laws_eqNeedS.l0 k x0 x1 (wrap64 (x5 + 1))) else (some false))) else (none)) else (none)) else (some true)
end
def laws_eqNeedS.f (k : Nat) (l0 : List (S94)) (l1 : List (S94)) : Option (Bool) := if (l0.length : Int) = (l1.length : Int) then (laws_eqNeedS.j0 k l0 l1) else (some false)
def laws_eqNeedS.T6 : Bool × List (List Nat × List Nat) := (true, [([], []), ([], []), ([0, 1], [0, 1]), ([2], [2]), ([], []), ([], []), ([4, 5], [4, 5]), ([6], [6]), ([3, 7], [3, 7]), ([8], [8])])
def laws_eqNeedS.B6 : List Nat := [0, 0, 3, 7, 0, 0, 48, 112, 255, 511]
theorem laws_eqNeedS.tab6 : rtab .any (opsOf Try.f56 6) = laws_eqNeedS.T6 := by kernel_rfl
theorem laws_eqNeedS.bits6 : waitsOk laws_eqNeedS.T6.2 laws_eqNeedS.B6 = true := by kernel_rfl
theorem laws_eqNeedS.calls (k : Nat) (A0 : Option Addr) (c0 : Nat) (l0 : List (S94)) (A1 : Option Addr) (c1 : Nat) (l1 : List (S94)) (r : Bool) (w : World) (b7 : Kd.C k94 w A0 l0.length l0) (b8 : l0.length ≤ c0) (b9 : Kd.C k94 w A1 l1.length l1) (c2 : l1.length ≤ c1) (h : laws_eqNeedS.f k l0 l1 = some r) :
  Calls Try.prog 56 #[.slice A0 l0.length c0, .slice A1 l1.length c1] w fun e w' => e = .returned (.bool r) ∧ Below w.heap.size w w' := by
 have d5 := Try.underlying94
 have c3 := zA b7
 have d6 := zA b8
 clear b7 b8
 have c5 := zA b9
 have d7 := zA c2
 clear b9 c2
 have HB := zA (Below.refl w.heap.size w)
 unfold laws_eqNeedS.f at h
 have H := h
 clear h
 have b2 := zA H
 clear H
 go_enter Try.func56, Try.ntmps56
 go_upto_if 10 with (fail)
 go_cut [] (fun wc => ∃ (kq : Nat), Aside0 (laws_eqNeedS.j0 kq l0 l1 = some r) ∧ Aside0 (kq ≤ k) ∧ Aside0 (Below w.heap.size w wc))
 case first =>
  have H := b2.out; clear b2; replace H := zI1 H
  rcases H with ⟨c4, H⟩ | ⟨c4, H⟩
  ·have a5 := beq_iff_eq.mpr c4; have b3 := bne_eq_false_iff_eq.mpr c4
   have b4 : (l0.length == l1.length) = true := by first | simpa using c4 | (simp at c4 ⊢; omega)
   clear c4
   (first | rw [a5] | (simp only [i64_w, i32_w]; rw [a5]) | skip)
   have H' := zA H; clear H
   go_wp2
   go_meet
   case rel => exact ⟨_, (by first | exact H' | (subst_vars; exact H')), ⟨by first | omega | exact Nat.le_refl _⟩, ⟨zB⟩⟩
  have a5 := beq_eq_false_iff_ne.mpr c4; have b3 := bne_iff_ne.mpr c4
  have b4 : (l0.length == l1.length) = false := by first | simpa using c4 | (simp at c4 ⊢; omega)
  (first | rw [a5] | (simp only [i64_w, i32_w]; rw [a5]) | skip)
  obtain rfl := zm H
  go_wp2
  go_ret
  exact ⟨zE, zB⟩
 case rest =>
  clear b2
  try clear c1
  try clear p2
  try clear c4
  try clear a5
  try clear b3
  try clear b4
  obtain ⟨kq, HA, c6, HB⟩ := hcut
  cases kq with
  | zero => exact absurd HA.out (by simp [laws_eqNeedS.j0])
  | succ c7 =>
   have H := HA.out; clear HA; simp only [laws_eqNeedS.j0] at H; have H' := zA H; clear H
   go_wp2
   go_loopg [5] c7 (fun kq v5 w' => ∃ (a0 : Int), v5 = .int .i64 a0 ∧ Aside0 (laws_eqNeedS.l0 kq l0 l1 a0 = some r) ∧ Aside0 (kq ≤ c7) ∧ Aside0 (Below w.heap.size w w'))
   case atStart => exact ⟨(0), zS, H', ⟨Nat.le_refl _⟩, ⟨zB⟩⟩
   case round =>
    clear H'
    try clear c1
    try clear p2
    try clear c4
    try clear a5
    try clear b3
    try clear b4
    try clear p2
    obtain ⟨a0, rfl, HA, c8, HB⟩ := hrel
    cases gk with
    | zero => exact absurd HA.out (by simp [laws_eqNeedS.l0])
    | succ k2 =>
     have H := HA.out; clear HA; simp only [laws_eqNeedS.l0] at H; replace H := zI0 H
     rcases H with ⟨d0, H⟩ | ⟨d0, H⟩
     ·replace H := zD0 H; obtain ⟨d8, H⟩ := H; replace H := zD0 H; obtain ⟨d9, H⟩ := H; replace H := Option.bind_eq_some_iff.mp H; obtain ⟨e0, c9, H⟩ := H
      try dsimp only at H
      have A8 := zA c9; clear c9; replace H := zB0 H
      rcases H with ⟨rfl, H⟩ | ⟨rfl, H⟩
      ·have H' := zA H; clear H
       try go_wp2
       replace HB := zA (below_drew1 HB.out); have a6 : 0 ≤ (a0 : Int) := zD; have a7 : a0 < (l0.length : Int) := zD; obtain ⟨a8, b5, a1, a2⟩ := at_T94 c3.out a0 a6 a7; have d1 := a2; have d2 := a1; cases b5; replace a1 := zx HB a1; replace a2 := zx HB a2; replace a6 := eq_true a6; replace a7 := eq_true a7; have a9 : 0 ≤ (a0 : Int) := zD; have b0 : a0 < (l1.length : Int) := zD; obtain ⟨b1, b6, a3, a4⟩ := at_T94 c5.out a0 a9 b0; have d3 := a4; have d4 := a3; cases b6; replace a3 := zx HB a3; replace a4 := zx HB a4; replace a9 := eq_true a9; replace b0 := eq_true b0
       refine start_ (n := 10) (S := fun w' => w'.cell? (a8.add ((a0).toNat * 2)) = some (.string ((rd_T94 l0 a0).f0)) ∧ w'.cell? ⟨(a8.add ((a0).toNat * 2)).block, (a8.add ((a0).toNat * 2)).off + 1, none⟩ = some (.string ((rd_T94 l0 a0).f1)) ∧ w'.cell? (b1.add ((a0).toNat * 2)) = some (.string ((rd_T94 l1 a0).f0)) ∧ w'.cell? ⟨(b1.add ((a0).toNat * 2)).block, (b1.add ((a0).toNat * 2)).off + 1, none⟩ = some (.string ((rd_T94 l1 a0).f1))) (ds := []) (Array.replicate 10 false) (by kernel_rfl) rfl rfl zO fun hHeld => ?_; refine with_tabW laws_eqNeedS.tab6 laws_eqNeedS.bits6 (fun HT_ HW_ => ?_)
       generalize wr.drew = e1 at HB a1 a2 a3 a4 hHeld ⊢; refine zp 0 17 ?_; refine zp 1 18 ?_; refine zp 2 19 ?_; refine zp 4 21 ?_; refine zp 5 22 ?_; refine zp 6 23 ?_; refine zt 3 20 ?_; refine zt 7 24 ?_
       refine zo 8 (some 25) fun K hK => ?_
       refine goes_ Try.func83 (by kernel_rfl) rfl #[.agg #[.string ((rd_T94 l0 a0).f0), .string ((rd_T94 l0 a0).f1)], .agg #[.string ((rd_T94 l1 a0).f0), .string ((rd_T94 l1 a0).f1)]] (by rfl) rfl rfl zM ?_
       with_reducible refine (laws_eqNeed.calls ((rd_T94 l0 a0).f0) ((rd_T94 l0 a0).f1) ((rd_T94 l1 a0).f0) ((rd_T94 l1 a0).f1) true _ A8.out).mono ?_
       rintro e e2 ⟨rfl, hb⟩
       refine ⟨_, rfl, ?_⟩
       replace HB := zA (below_step (zB) hb)
       (try clear hb)
       refine hK.out _ _ zO fun hHeld => ?_
       clear hK K; refine zn ?_; refine zp 9 26 ?_
       refine done_ (done_of HT_.out (by kernel_rfl)) ?_
       try go_wp2
       go_roundg k2
       case measure => have := c6.out; have := c8.out; omega
       case rel => exact ⟨(wrap64 (a0 + 1)), zS, H', ⟨by have := c6.out; have := c8.out; omega⟩, ⟨zB⟩⟩
      obtain rfl := zm H
      try go_wp2
      replace HB := zA (below_drew1 HB.out); have a6 : 0 ≤ (a0 : Int) := zD; have a7 : a0 < (l0.length : Int) := zD; obtain ⟨a8, b5, a1, a2⟩ := at_T94 c3.out a0 a6 a7; have d1 := a2; have d2 := a1; cases b5; replace a1 := zx HB a1; replace a2 := zx HB a2; replace a6 := eq_true a6; replace a7 := eq_true a7; have a9 : 0 ≤ (a0 : Int) := zD; have b0 : a0 < (l1.length : Int) := zD; obtain ⟨b1, b6, a3, a4⟩ := at_T94 c5.out a0 a9 b0; have d3 := a4; have d4 := a3; cases b6; replace a3 := zx HB a3; replace a4 := zx HB a4; replace a9 := eq_true a9; replace b0 := eq_true b0
      refine start_ (n := 10) (S := fun w' => w'.cell? (a8.add ((a0).toNat * 2)) = some (.string ((rd_T94 l0 a0).f0)) ∧ w'.cell? ⟨(a8.add ((a0).toNat * 2)).block, (a8.add ((a0).toNat * 2)).off + 1, none⟩ = some (.string ((rd_T94 l0 a0).f1)) ∧ w'.cell? (b1.add ((a0).toNat * 2)) = some (.string ((rd_T94 l1 a0).f0)) ∧ w'.cell? ⟨(b1.add ((a0).toNat * 2)).block, (b1.add ((a0).toNat * 2)).off + 1, none⟩ = some (.string ((rd_T94 l1 a0).f1))) (ds := []) (Array.replicate 10 false) (by kernel_rfl) rfl rfl zO fun hHeld => ?_; refine with_tabW laws_eqNeedS.tab6 laws_eqNeedS.bits6 (fun HT_ HW_ => ?_)
      generalize wr.drew = e3 at HB a1 a2 a3 a4 hHeld ⊢; refine zp 0 17 ?_; refine zp 1 18 ?_; refine zp 2 19 ?_; refine zp 4 21 ?_; refine zp 5 22 ?_; refine zp 6 23 ?_; refine zt 3 20 ?_; refine zt 7 24 ?_
      refine zo 8 (some 25) fun K hK => ?_
      refine goes_ Try.func83 (by kernel_rfl) rfl #[.agg #[.string ((rd_T94 l0 a0).f0), .string ((rd_T94 l0 a0).f1)], .agg #[.string ((rd_T94 l1 a0).f0), .string ((rd_T94 l1 a0).f1)]] (by rfl) rfl rfl zM ?_
      with_reducible refine (laws_eqNeed.calls ((rd_T94 l0 a0).f0) ((rd_T94 l0 a0).f1) ((rd_T94 l1 a0).f0) ((rd_T94 l1 a0).f1) false _ A8.out).mono ?_
      rintro e e4 ⟨rfl, hb⟩
      refine ⟨_, rfl, ?_⟩
      replace HB := zA (below_step (zB) hb)
      (try clear hb)
      refine hK.out _ _ zO fun hHeld => ?_
      clear hK K; refine zn ?_; refine zp 9 26 ?_
      refine done_ (done_of HT_.out (by kernel_rfl)) ?_
      try go_wp2
      go_ret
      exact ⟨zE, zB⟩
     obtain rfl := zm H
     go_wp2
     go_ret
     exact ⟨zE, zB⟩
/-! ### laws_eqEntry: function 20 -/
def laws_eqEntry.j0 : Nat → ByteArray → Int → Int → Int → List ByteArray → List (S94) → ByteArray → Int → Int → Int → List ByteArray → List (S94) → Option (Bool)
 | 0, _, _, _, _, _, _, _, _, _, _, _, _ => none
 | k + 1, b2, a0, a1, a2, a3, a4, b3, a5, a6, a7, a8, a9 => (laws_eqVer.f k a0 a1 a2 a3 a5 a6 a7 a8).bind fun b0 => (if b0 = true then ((laws_eqNeedS.f k a4 a9).bind fun b1 => (if b1 = true then (some true) else (some false))) else (some false))
def laws_eqEntry.f (k : Nat) (a0 : ByteArray) (a2 a3 a4 : Int) (a5 : List ByteArray) (a6 : List (S94)) (a1 : ByteArray) (a7 a8 a9 : Int) (b0 : List ByteArray) (b1 : List (S94)) : Option (Bool) := if a0.toList = a1.toList then (laws_eqEntry.j0 k a0 a2 a3 a4 a5 a6 a1 a7 a8 a9 b0 b1) else (some false)
theorem laws_eqEntry.calls (k : Nat) (c3 : ByteArray) (a6 a7 a8 : Int) (b2 : Option Addr) (b3 : Nat) (a2 : List ByteArray) (b6 : Option Addr) (b7 : Nat) (a4 : List (S94)) (c4 : ByteArray) (a9 b0 b1 : Int) (b4 : Option Addr) (b5 : Nat) (a3 : List ByteArray) (b8 : Option Addr) (b9 : Nat) (a5 : List (S94)) (r : Bool) (w : World) (d6 : Kd.C Kd.string w b2 a2.length a2) (d7 : a2.length ≤ b3) (d8 : Kd.C k94 w b6 a4.length a4) (d9 : a4.length ≤ b7) (e0 : Kd.C Kd.string w b4 a3.length a3) (e1 : a3.length ≤ b5) (e2 : Kd.C k94 w b8 a5.length a5) (e3 : a5.length ≤ b9) (h : laws_eqEntry.f k c3 a6 a7 a8 a2 a4 c4 a9 b0 b1 a3 a5 = some r) :
  Calls Try.prog 20 #[.agg #[.string c3, .int .i64 a6, .int .i64 a7, .int .i64 a8, .slice b2 a2.length b3, .slice b6 a4.length b7], .agg #[.string c4, .int .i64 a9, .int .i64 b0, .int .i64 b1, .slice b4 a3.length b5, .slice b8 a5.length b9]] w fun e w' => e = .returned (.bool r) ∧ Below w.heap.size w w' := by
 have h8 := Try.underlying44
 have h9 := Try.underlying41
 have d0 := zA d6
 have d1 := zA d7
 clear d6 d7
 have e4 := zA d8
 have e5 := zA d9
 clear d8 d9
 have d2 := zA e0
 have d3 := zA e1
 clear e0 e1
 have e6 := zA e2
 have e7 := zA e3
 clear e2 e3
 have HB := zA (Below.refl w.heap.size w)
 unfold laws_eqEntry.f at h
 have H := h
 clear h
 have d4 := zA H
 clear H
 go_enter Try.func20, Try.ntmps20
 go_upto_if 9 with (first | ((with_reducible refine zd 2 ?_); refine ze 2 44 #[.string c3, .int .i64 a6, .int .i64 a7, .int .i64 a8, .slice b2 a2.length b3, .slice b6 a4.length b7] ?_; intro f2 hg w4 hbox hb; have a0 := zA (hbox); have i0 := zi HB hg; have i1 := zi HB hg; replace HB := zA (below_step (zB) hb); clear hb hbox hg) | ((with_reducible refine zd 3 ?_); refine ze 3 44 #[.string c4, .int .i64 a9, .int .i64 b0, .int .i64 b1, .slice b4 a3.length b5, .slice b8 a5.length b9] ?_; intro f3 hg w5 hbox hb; have a1 := zA (hbox); have i2 := zi HB hg; have i3 := zi HB hg; replace HB := zh HB hb; have c7 := zA (zL hg (zK a0.out)); have c8 := zA (zJ hg (zK a0.out)); replace a0 := zb a0 hb; clear hb hbox hg; have i4 := c7.out; have i5 := c8.out; obtain ⟨f4, f5, f6, f7, f8, f9, g0, g1, g2, g3, g4, g5⟩ := ze6 a0.out; obtain ⟨g6, g7, g8, g9, h0, h1, h2, h3, h4, h5, h6, h7⟩ := ze6 a1.out))
 (try simp only [Act.put, zT])
 go_cut [] (fun wc => ∃ (kq : Nat), Aside0 (laws_eqEntry.j0 kq c3 a6 a7 a8 a2 a4 c4 a9 b0 b1 a3 a5 = some r) ∧ Aside0 (kq ≤ k) ∧ Aside0 (wc.heap[f2]? = some (.cells #[.string c3, .int .i64 a6, .int .i64 a7, .int .i64 a8, (.slice b2 a2.length b3), (.slice b6 a4.length b7)] 44 (0, 0))) ∧ Aside0 (wc.heap[f3]? = some (.cells #[.string c4, .int .i64 a9, .int .i64 b0, .int .i64 b1, (.slice b4 a3.length b5), (.slice b8 a5.length b9)] 44 (0, 0))) ∧ Aside0 (Below w.heap.size w wc))
 case first =>
  have H := d4.out; clear d4; replace H := zI1 H
  rcases H with ⟨c9, H⟩ | ⟨c9, H⟩
  ·have c0 := beq_iff_eq.mpr c9; have e8 := bne_eq_false_iff_eq.mpr c9; clear c9
   (first | rw [c0] | (simp only [i64_w, i32_w]; rw [c0]) | skip)
   have H' := zA H; clear H
   go_wp2
   go_meet
   case rel => exact ⟨_, (by first | exact H' | (subst_vars; exact H')), ⟨by first | omega | exact Nat.le_refl _⟩, ⟨zK a0.out⟩, ⟨zK a1.out⟩, ⟨zW HB.out⟩⟩
  have c0 := beq_eq_false_iff_ne.mpr c9; have e8 := bne_iff_ne.mpr c9
  (first | rw [c0] | (simp only [i64_w, i32_w]; rw [c0]) | skip)
  obtain rfl := zm H
  go_wp2
  go_ret
  exact ⟨zE, zW HB.out⟩
 case rest =>
  clear d4
  try clear c1
  try clear c2
  try clear p2
  try clear c6
  try clear c9
  try clear c0
  try clear e8
  try clear f4 f5 f6 f7 f8 f9 g0 g1 g2 g3 g4 g5
  try clear g6 g7 g8 g9 h0 h1 h2 h3 h4 h5 h6 h7
  obtain ⟨kq, HA, i6, a0, a1, HB⟩ := hcut
  cases kq with
  | zero => exact absurd HA.out (by simp [laws_eqEntry.j0])
  | succ c5 =>
   have H := HA.out; clear HA; simp only [laws_eqEntry.j0] at H; replace H := Option.bind_eq_some_iff.mp H; obtain ⟨i7, e9, H⟩ := H
   try dsimp only at H
   have d5 := zA e9; clear e9; replace H := zB0 H
   rcases H with ⟨rfl, H⟩ | ⟨rfl, H⟩
   ·replace H := Option.bind_eq_some_iff.mp H; obtain ⟨i8, f0, H⟩ := H
    try dsimp only at H
    have f1 := zA f0; clear f0; replace H := zB0 H
    rcases H with ⟨rfl, H⟩ | ⟨rfl, H⟩
    ·obtain rfl := zm H; have i9 := c7.out; have j1 := c8.out; obtain ⟨j2, j3, j4, j5, j6, j7, j8, j9, k0, k1, k2, k3⟩ := ze6 a0.out; obtain ⟨k4, k5, k6, k7, k8, k9, l0, l1, l2, l3, l4, l5⟩ := ze6 a1.out
     go_wp2_with (first | ((with_reducible refine zq 22 ?_); refine zg (some 14) Try.func22 #[.agg #[.int .i64 a6, .int .i64 a7, .int .i64 a8, .slice b2 a2.length b3], .agg #[.int .i64 a9, .int .i64 b0, .int .i64 b1, .slice b4 a3.length b5]] ?_; (with_reducible refine (laws_eqVer.calls c5 a6 a7 a8 _ _ a2 a9 b0 b1 _ _ a3 true _ ?s1 ?s2 ?s3 ?s4 d5.out).mono ?_); (case s1 => exact zC (Kd.C_below d0.out HB.out)); (case s2 => exact d1.out); (case s3 => exact zC (Kd.C_below d2.out HB.out)); (case s4 => exact d3.out); rintro e l6 ⟨rfl, hb⟩; refine ⟨_, rfl, ?_⟩; replace a0 := zb a0 hb; replace a1 := zb a1 hb; replace HB := zh HB hb; (try clear hb); obtain ⟨l7, l8, l9, m0, m1, m2, m3, m4, m5, m6, m7, m8⟩ := ze6 a0.out; obtain ⟨m9, n0, n1, n2, n3, n4, n5, n6, n7, n8, n9, o0⟩ := ze6 a1.out) | ((with_reducible refine zq 56 ?_); refine zg (some 20) Try.func56 #[.slice b6 a4.length b7, .slice b8 a5.length b9] ?_; (with_reducible refine (laws_eqNeedS.calls c5 _ _ a4 _ _ a5 true _ ?s1 ?s2 ?s3 ?s4 f1.out).mono ?_); (case s1 => exact zC (Kd.C_below e4.out HB.out)); (case s2 => exact e5.out); (case s3 => exact zC (Kd.C_below e6.out HB.out)); (case s4 => exact e7.out); rintro e o1 ⟨rfl, hb⟩; refine ⟨_, rfl, ?_⟩; replace a0 := zb a0 hb; replace a1 := zb a1 hb; replace HB := zh HB hb; (try clear hb)))
     go_ret
     exact ⟨zE, zW HB.out⟩
    obtain rfl := zm H; have o2 := c7.out; have o3 := c8.out; obtain ⟨o4, o5, o6, o7, o8, o9, p0, p1, p3, p4, p5, p6⟩ := ze6 a0.out; obtain ⟨p7, p8, p9, q0, q1, q2, q3, q4, q5, q6, q7, q8⟩ := ze6 a1.out
    go_wp2_with (first | ((with_reducible refine zq 22 ?_); refine zg (some 14) Try.func22 #[.agg #[.int .i64 a6, .int .i64 a7, .int .i64 a8, .slice b2 a2.length b3], .agg #[.int .i64 a9, .int .i64 b0, .int .i64 b1, .slice b4 a3.length b5]] ?_; (with_reducible refine (laws_eqVer.calls c5 a6 a7 a8 _ _ a2 a9 b0 b1 _ _ a3 true _ ?s1 ?s2 ?s3 ?s4 d5.out).mono ?_); (case s1 => exact zC (Kd.C_below d0.out HB.out)); (case s2 => exact d1.out); (case s3 => exact zC (Kd.C_below d2.out HB.out)); (case s4 => exact d3.out); rintro e q9 ⟨rfl, hb⟩; refine ⟨_, rfl, ?_⟩; replace a0 := zb a0 hb; replace a1 := zb a1 hb; replace HB := zh HB hb; (try clear hb); obtain ⟨r0, r1, r2, r3, r4, r5, r6, r7, r8, r9, t0, t1⟩ := ze6 a0.out; obtain ⟨t2, t3, t4, t5, t6, t7, t8, t9, v0, v1, v2, v3⟩ := ze6 a1.out) | ((with_reducible refine zq 56 ?_); refine zg (some 20) Try.func56 #[.slice b6 a4.length b7, .slice b8 a5.length b9] ?_; (with_reducible refine (laws_eqNeedS.calls c5 _ _ a4 _ _ a5 false _ ?s1 ?s2 ?s3 ?s4 f1.out).mono ?_); (case s1 => exact zC (Kd.C_below e4.out HB.out)); (case s2 => exact e5.out); (case s3 => exact zC (Kd.C_below e6.out HB.out)); (case s4 => exact e7.out); rintro e v4 ⟨rfl, hb⟩; refine ⟨_, rfl, ?_⟩; replace a0 := zb a0 hb; replace a1 := zb a1 hb; replace HB := zh HB hb; (try clear hb)))
    go_ret
    exact ⟨zE, zW HB.out⟩
   obtain rfl := zm H; have v5 := c7.out; have v6 := c8.out; obtain ⟨v7, v8, v9, x0, x1, x2, x3, x4, x5, x6, x7, x8⟩ := ze6 a0.out; obtain ⟨x9, y0, y1, y2, y3, y4, y5, y6, y7, y8, y9, z0⟩ := ze6 a1.out
   go_wp2_with (first | ((with_reducible refine zq 22 ?_); refine zg (some 14) Try.func22 #[.agg #[.int .i64 a6, .int .i64 a7, .int .i64 a8, .slice b2 a2.length b3], .agg #[.int .i64 a9, .int .i64 b0, .int .i64 b1, .slice b4 a3.length b5]] ?_; (with_reducible refine (laws_eqVer.calls c5 a6 a7 a8 _ _ a2 a9 b0 b1 _ _ a3 false _ ?s1 ?s2 ?s3 ?s4 d5.out).mono ?_); (case s1 => exact zC (Kd.C_below d0.out HB.out)); (case s2 => exact d1.out); (case s3 => exact zC (Kd.C_below d2.out HB.out)); (case s4 => exact d3.out); rintro e z1 ⟨rfl, hb⟩; refine ⟨_, rfl, ?_⟩; replace a0 := zb a0 hb; replace a1 := zb a1 hb; replace HB := zh HB hb; (try clear hb)))
   go_ret
   exact ⟨zE, zW HB.out⟩
/-! ### laws_eqEntryS: function 21 -/
mutual
def laws_eqEntryS.j0 : Nat → List (S44) → List (S44) → Option (Bool)
 | 0, _, _ => none
 | k + 1, x0, x1 => laws_eqEntryS.l0 k x0 x1 0
def laws_eqEntryS.l0 : Nat → List (S44) → List (S44) → Int → Option (Bool)
 | 0, _, _, _ => none
 | k + 1, x0, x1, x5 => if x5 < (x0.length : Int) then (if 0 ≤ x5 then (if x5 < (x1.length : Int) then ((laws_eqEntry.f k ((rd_T44 x0 x5).f0) ((rd_T44 x0 x5).f1.f0) ((rd_T44 x0 x5).f1.f1) ((rd_T44 x0 x5).f1.f2) ((rd_T44 x0 x5).f1.f3) ((rd_T44 x0 x5).f2) ((rd_T44 x1 x5).f0) ((rd_T44 x1 x5).f1.f0) ((rd_T44 x1 x5).f1.f1) ((rd_T44 x1 x5).f1.f2) ((rd_T44 x1 x5).f1.f3) ((rd_T44 x1 x5).f2)).bind fun a0 => (if a0 = true then (laws_eqEntryS.l0 k x0 x1 (wrap64 (x5 + 1))) else (some false))) else (none)) else (none)) else (some true)
end
def laws_eqEntryS.f (k : Nat) (l0 : List (S44)) (l1 : List (S44)) : Option (Bool) := if (l0.length : Int) = (l1.length : Int) then (laws_eqEntryS.j0 k l0 l1) else (some false)
def laws_eqEntryS.T6 : Bool × List (List Nat × List Nat) := (true, [([], []), ([], []), ([0, 1], [0, 1]), ([2], [2]), ([], []), ([], []), ([4, 5], [4, 5]), ([6], [6]), ([3, 7], [3, 7]), ([8], [8])])
def laws_eqEntryS.B6 : List Nat := [0, 0, 3, 7, 0, 0, 48, 112, 255, 511]
theorem laws_eqEntryS.tab6 : rtab .any (opsOf Try.f21 6) = laws_eqEntryS.T6 := by kernel_rfl
theorem laws_eqEntryS.bits6 : waitsOk laws_eqEntryS.T6.2 laws_eqEntryS.B6 = true := by kernel_rfl
theorem laws_eqEntryS.calls (k : Nat) (A0 : Option Addr) (c0 : Nat) (l0 : List (S44)) (A1 : Option Addr) (c1 : Nat) (l1 : List (S44)) (r : Bool) (w : World) (f7 : Kd.C k44 w A0 l0.length l0) (f8 : l0.length ≤ c0) (f9 : Kd.C k44 w A1 l1.length l1) (g0 : l1.length ≤ c1) (h : laws_eqEntryS.f k l0 l1 = some r) :
  Calls Try.prog 21 #[.slice A0 l0.length c0, .slice A1 l1.length c1] w fun e w' => e = .returned (.bool r) ∧ Below w.heap.size w w' := by
 have i0 := Try.underlying44
 have g1 := zA f7
 have i1 := zA f8
 clear f7 f8
 have g2 := zA f9
 have i2 := zA g0
 clear f9 g0
 have HB := zA (Below.refl w.heap.size w)
 unfold laws_eqEntryS.f at h
 have H := h
 clear h
 have e4 := zA H
 clear H
 go_enter Try.func21, Try.ntmps21
 go_upto_if 10 with (fail)
 go_cut [] (fun wc => ∃ (kq : Nat), Aside0 (laws_eqEntryS.j0 kq l0 l1 = some r) ∧ Aside0 (kq ≤ k) ∧ Aside0 (Below w.heap.size w wc))
 case first =>
  have H := e4.out; clear e4; replace H := zI1 H
  rcases H with ⟨c4, H⟩ | ⟨c4, H⟩
  ·have b5 := beq_iff_eq.mpr c4; have e5 := bne_eq_false_iff_eq.mpr c4
   have e6 : (l0.length == l1.length) = true := by first | simpa using c4 | (simp at c4 ⊢; omega)
   clear c4
   (first | rw [b5] | (simp only [i64_w, i32_w]; rw [b5]) | skip)
   have H' := zA H; clear H
   go_wp2
   go_meet
   case rel => exact ⟨_, (by first | exact H' | (subst_vars; exact H')), ⟨by first | omega | exact Nat.le_refl _⟩, ⟨zB⟩⟩
  have b5 := beq_eq_false_iff_ne.mpr c4; have e5 := bne_iff_ne.mpr c4
  have e6 : (l0.length == l1.length) = false := by first | simpa using c4 | (simp at c4 ⊢; omega)
  (first | rw [b5] | (simp only [i64_w, i32_w]; rw [b5]) | skip)
  obtain rfl := zm H
  go_wp2
  go_ret
  exact ⟨zE, zB⟩
 case rest =>
  clear e4
  try clear c1
  try clear c2
  try clear p2
  try clear c4
  try clear b5
  try clear e5
  try clear e6
  obtain ⟨kq, HA, g3, HB⟩ := hcut
  cases kq with
  | zero => exact absurd HA.out (by simp [laws_eqEntryS.j0])
  | succ g4 =>
   have H := HA.out; clear HA; simp only [laws_eqEntryS.j0] at H; have H' := zA H; clear H
   go_wp2
   go_loopg [5] g4 (fun kq v5 w' => ∃ (a0 : Int), v5 = .int .i64 a0 ∧ Aside0 (laws_eqEntryS.l0 kq l0 l1 a0 = some r) ∧ Aside0 (kq ≤ g4) ∧ Aside0 (Below w.heap.size w w'))
   case atStart => exact ⟨(0), zS, H', ⟨Nat.le_refl _⟩, ⟨zB⟩⟩
   case round =>
    clear H'
    try clear c1
    try clear c2
    try clear p2
    try clear c4
    try clear b5
    try clear e5
    try clear e6
    try clear p2
    obtain ⟨a0, rfl, HA, g5, HB⟩ := hrel
    cases gk with
    | zero => exact absurd HA.out (by simp [laws_eqEntryS.l0])
    | succ k2 =>
     have H := HA.out; clear HA; simp only [laws_eqEntryS.l0] at H; replace H := zI0 H
     rcases H with ⟨g7, H⟩ | ⟨g7, H⟩
     ·replace H := zD0 H; obtain ⟨i3, H⟩ := H; replace H := zD0 H; obtain ⟨i4, H⟩ := H; replace H := Option.bind_eq_some_iff.mp H; obtain ⟨i5, g6, H⟩ := H
      try dsimp only at H
      have A8 := zA g6; clear g6; replace H := zB0 H
      rcases H with ⟨rfl, H⟩ | ⟨rfl, H⟩
      ·have H' := zA H; clear H
       try go_wp2
       replace HB := zA (below_drew1 HB.out); have b6 : 0 ≤ (a0 : Int) := zD; have b7 : a0 < (l0.length : Int) := zD; obtain ⟨a1, c3, c5, c6, c7, e7, a3, a4, a5, a6, a7, a8, c8, c9, d0, d1⟩ := at_T44 g1.out a0 b6 b7; have g8 := a8; have g9 := a7; have h0 := a6; have h1 := a5; have h2 := a4; have h3 := a3; cases e7; replace a3 := zx HB a3; replace a4 := zx HB a4; replace a5 := zx HB a5; replace a6 := zx HB a6; replace a7 := zx HB a7; replace a8 := zx HB a8; have d2 := zA c9; have e8 := zA c8; clear c9 c8; have d3 := zA d1; have e9 := zA d0; clear d1 d0; replace b6 := eq_true b6; replace b7 := eq_true b7; have b8 : 0 ≤ (a0 : Int) := zD; have b9 : a0 < (l1.length : Int) := zD; obtain ⟨a2, d4, d5, d6, d7, f4, a9, b0, b1, b2, b3, b4, d8, d9, e0, e1⟩ := at_T44 g2.out a0 b8 b9; have h4 := b4; have h5 := b3; have h6 := b2; have h7 := b1; have h8 := b0; have h9 := a9; cases f4; replace a9 := zx HB a9; replace b0 := zx HB b0; replace b1 := zx HB b1; replace b2 := zx HB b2; replace b3 := zx HB b3; replace b4 := zx HB b4; have e2 := zA d9; have f5 := zA d8; clear d9 d8; have e3 := zA e1; have f6 := zA e0; clear e1 e0; replace b8 := eq_true b8; replace b9 := eq_true b9
       refine start_ (n := 10) (S := fun w' => w'.cell? (a1.add ((a0).toNat * 6)) = some (.string ((rd_T44 l0 a0).f0)) ∧ w'.cell? ⟨(a1.add ((a0).toNat * 6)).block, (a1.add ((a0).toNat * 6)).off + 1, none⟩ = some (.int .i64 ((rd_T44 l0 a0).f1.f0)) ∧ w'.cell? ⟨(a1.add ((a0).toNat * 6)).block, (a1.add ((a0).toNat * 6)).off + 2, none⟩ = some (.int .i64 ((rd_T44 l0 a0).f1.f1)) ∧ w'.cell? ⟨(a1.add ((a0).toNat * 6)).block, (a1.add ((a0).toNat * 6)).off + 3, none⟩ = some (.int .i64 ((rd_T44 l0 a0).f1.f2)) ∧ w'.cell? ⟨(a1.add ((a0).toNat * 6)).block, (a1.add ((a0).toNat * 6)).off + 4, none⟩ = some (.slice c3 ((rd_T44 l0 a0).f1.f3).length c5) ∧ w'.cell? ⟨(a1.add ((a0).toNat * 6)).block, (a1.add ((a0).toNat * 6)).off + 5, none⟩ = some (.slice c6 ((rd_T44 l0 a0).f2).length c7) ∧ w'.cell? (a2.add ((a0).toNat * 6)) = some (.string ((rd_T44 l1 a0).f0)) ∧ w'.cell? ⟨(a2.add ((a0).toNat * 6)).block, (a2.add ((a0).toNat * 6)).off + 1, none⟩ = some (.int .i64 ((rd_T44 l1 a0).f1.f0)) ∧ w'.cell? ⟨(a2.add ((a0).toNat * 6)).block, (a2.add ((a0).toNat * 6)).off + 2, none⟩ = some (.int .i64 ((rd_T44 l1 a0).f1.f1)) ∧ w'.cell? ⟨(a2.add ((a0).toNat * 6)).block, (a2.add ((a0).toNat * 6)).off + 3, none⟩ = some (.int .i64 ((rd_T44 l1 a0).f1.f2)) ∧ w'.cell? ⟨(a2.add ((a0).toNat * 6)).block, (a2.add ((a0).toNat * 6)).off + 4, none⟩ = some (.slice d4 ((rd_T44 l1 a0).f1.f3).length d5) ∧ w'.cell? ⟨(a2.add ((a0).toNat * 6)).block, (a2.add ((a0).toNat * 6)).off + 5, none⟩ = some (.slice d6 ((rd_T44 l1 a0).f2).length d7)) (ds := []) (Array.replicate 10 false) (by kernel_rfl) rfl rfl zO fun hHeld => ?_; refine with_tabW laws_eqEntryS.tab6 laws_eqEntryS.bits6 (fun HT_ HW_ => ?_)
       generalize wr.drew = i6 at HB d2 d3 e2 e3 a3 a4 a5 a6 a7 a8 a9 b0 b1 b2 b3 b4 hHeld ⊢; refine zp 0 17 ?_; refine zp 1 18 ?_; refine zp 2 19 ?_; refine zp 4 21 ?_; refine zp 5 22 ?_; refine zp 6 23 ?_; refine zt 3 20 ?_; refine zt 7 24 ?_
       refine zo 8 (some 25) fun K hK => ?_
       refine goes_ Try.func20 (by kernel_rfl) rfl #[.agg #[.string ((rd_T44 l0 a0).f0), .int .i64 ((rd_T44 l0 a0).f1.f0), .int .i64 ((rd_T44 l0 a0).f1.f1), .int .i64 ((rd_T44 l0 a0).f1.f2), .slice c3 ((rd_T44 l0 a0).f1.f3).length c5, .slice c6 ((rd_T44 l0 a0).f2).length c7], .agg #[.string ((rd_T44 l1 a0).f0), .int .i64 ((rd_T44 l1 a0).f1.f0), .int .i64 ((rd_T44 l1 a0).f1.f1), .int .i64 ((rd_T44 l1 a0).f1.f2), .slice d4 ((rd_T44 l1 a0).f1.f3).length d5, .slice d6 ((rd_T44 l1 a0).f2).length d7]] (by rfl) rfl rfl zM ?_
       with_reducible refine (laws_eqEntry.calls k2 ((rd_T44 l0 a0).f0) ((rd_T44 l0 a0).f1.f0) ((rd_T44 l0 a0).f1.f1) ((rd_T44 l0 a0).f1.f2) _ _ ((rd_T44 l0 a0).f1.f3) _ _ ((rd_T44 l0 a0).f2) ((rd_T44 l1 a0).f0) ((rd_T44 l1 a0).f1.f0) ((rd_T44 l1 a0).f1.f1) ((rd_T44 l1 a0).f1.f2) _ _ ((rd_T44 l1 a0).f1.f3) _ _ ((rd_T44 l1 a0).f2) true _ ?s1 ?s2 ?s3 ?s4 ?s5 ?s6 ?s7 ?s8 A8.out).mono ?_
       (case s1 => exact zC (Kd.C_below d2.out HB.out))
       (case s2 => exact e8.out)
       (case s3 => exact zC (Kd.C_below d3.out HB.out))
       (case s4 => exact e9.out)
       (case s5 => exact zC (Kd.C_below e2.out HB.out))
       (case s6 => exact f5.out)
       (case s7 => exact zC (Kd.C_below e3.out HB.out))
       (case s8 => exact f6.out)
       rintro e i7 ⟨rfl, hb⟩
       refine ⟨_, rfl, ?_⟩
       replace HB := zA (below_step (zB) hb)
       (try clear hb)
       refine hK.out _ _ zO fun hHeld => ?_
       clear hK K; refine zn ?_; refine zp 9 26 ?_
       refine done_ (done_of HT_.out (by kernel_rfl)) ?_
       try go_wp2
       go_roundg k2
       case measure => have := g3.out; have := g5.out; omega
       case rel => exact ⟨(wrap64 (a0 + 1)), zS, H', ⟨by have := g3.out; have := g5.out; omega⟩, ⟨zB⟩⟩
      obtain rfl := zm H
      try go_wp2
      replace HB := zA (below_drew1 HB.out); have b6 : 0 ≤ (a0 : Int) := zD; have b7 : a0 < (l0.length : Int) := zD; obtain ⟨a1, c3, c5, c6, c7, e7, a3, a4, a5, a6, a7, a8, c8, c9, d0, d1⟩ := at_T44 g1.out a0 b6 b7; have g8 := a8; have g9 := a7; have h0 := a6; have h1 := a5; have h2 := a4; have h3 := a3; cases e7; replace a3 := zx HB a3; replace a4 := zx HB a4; replace a5 := zx HB a5; replace a6 := zx HB a6; replace a7 := zx HB a7; replace a8 := zx HB a8; have d2 := zA c9; have e8 := zA c8; clear c9 c8; have d3 := zA d1; have e9 := zA d0; clear d1 d0; replace b6 := eq_true b6; replace b7 := eq_true b7; have b8 : 0 ≤ (a0 : Int) := zD; have b9 : a0 < (l1.length : Int) := zD; obtain ⟨a2, d4, d5, d6, d7, f4, a9, b0, b1, b2, b3, b4, d8, d9, e0, e1⟩ := at_T44 g2.out a0 b8 b9; have h4 := b4; have h5 := b3; have h6 := b2; have h7 := b1; have h8 := b0; have h9 := a9; cases f4; replace a9 := zx HB a9; replace b0 := zx HB b0; replace b1 := zx HB b1; replace b2 := zx HB b2; replace b3 := zx HB b3; replace b4 := zx HB b4; have e2 := zA d9; have f5 := zA d8; clear d9 d8; have e3 := zA e1; have f6 := zA e0; clear e1 e0; replace b8 := eq_true b8; replace b9 := eq_true b9
      refine start_ (n := 10) (S := fun w' => w'.cell? (a1.add ((a0).toNat * 6)) = some (.string ((rd_T44 l0 a0).f0)) ∧ w'.cell? ⟨(a1.add ((a0).toNat * 6)).block, (a1.add ((a0).toNat * 6)).off + 1, none⟩ = some (.int .i64 ((rd_T44 l0 a0).f1.f0)) ∧ w'.cell? ⟨(a1.add ((a0).toNat * 6)).block, (a1.add ((a0).toNat * 6)).off + 2, none⟩ = some (.int .i64 ((rd_T44 l0 a0).f1.f1)) ∧ w'.cell? ⟨(a1.add ((a0).toNat * 6)).block, (a1.add ((a0).toNat * 6)).off + 3, none⟩ = some (.int .i64 ((rd_T44 l0 a0).f1.f2)) ∧ w'.cell? ⟨(a1.add ((a0).toNat * 6)).block, (a1.add ((a0).toNat * 6)).off + 4, none⟩ = some (.slice c3 ((rd_T44 l0 a0).f1.f3).length c5) ∧ w'.cell? ⟨(a1.add ((a0).toNat * 6)).block, (a1.add ((a0).toNat * 6)).off + 5, none⟩ = some (.slice c6 ((rd_T44 l0 a0).f2).length c7) ∧ w'.cell? (a2.add ((a0).toNat * 6)) = some (.string ((rd_T44 l1 a0).f0)) ∧ w'.cell? ⟨(a2.add ((a0).toNat * 6)).block, (a2.add ((a0).toNat * 6)).off + 1, none⟩ = some (.int .i64 ((rd_T44 l1 a0).f1.f0)) ∧ w'.cell? ⟨(a2.add ((a0).toNat * 6)).block, (a2.add ((a0).toNat * 6)).off + 2, none⟩ = some (.int .i64 ((rd_T44 l1 a0).f1.f1)) ∧ w'.cell? ⟨(a2.add ((a0).toNat * 6)).block, (a2.add ((a0).toNat * 6)).off + 3, none⟩ = some (.int .i64 ((rd_T44 l1 a0).f1.f2)) ∧ w'.cell? ⟨(a2.add ((a0).toNat * 6)).block, (a2.add ((a0).toNat * 6)).off + 4, none⟩ = some (.slice d4 ((rd_T44 l1 a0).f1.f3).length d5) ∧ w'.cell? ⟨(a2.add ((a0).toNat * 6)).block, (a2.add ((a0).toNat * 6)).off + 5, none⟩ = some (.slice d6 ((rd_T44 l1 a0).f2).length d7)) (ds := []) (Array.replicate 10 false) (by kernel_rfl) rfl rfl zO fun hHeld => ?_; refine with_tabW laws_eqEntryS.tab6 laws_eqEntryS.bits6 (fun HT_ HW_ => ?_)
      generalize wr.drew = i8 at HB d2 d3 e2 e3 a3 a4 a5 a6 a7 a8 a9 b0 b1 b2 b3 b4 hHeld ⊢; refine zp 0 17 ?_; refine zp 1 18 ?_; refine zp 2 19 ?_; refine zp 4 21 ?_; refine zp 5 22 ?_; refine zp 6 23 ?_; refine zt 3 20 ?_; refine zt 7 24 ?_
      refine zo 8 (some 25) fun K hK => ?_
      refine goes_ Try.func20 (by kernel_rfl) rfl #[.agg #[.string ((rd_T44 l0 a0).f0), .int .i64 ((rd_T44 l0 a0).f1.f0), .int .i64 ((rd_T44 l0 a0).f1.f1), .int .i64 ((rd_T44 l0 a0).f1.f2), .slice c3 ((rd_T44 l0 a0).f1.f3).length c5, .slice c6 ((rd_T44 l0 a0).f2).length c7], .agg #[.string ((rd_T44 l1 a0).f0), .int .i64 ((rd_T44 l1 a0).f1.f0), .int .i64 ((rd_T44 l1 a0).f1.f1), .int .i64 ((rd_T44 l1 a0).f1.f2), .slice d4 ((rd_T44 l1 a0).f1.f3).length d5, .slice d6 ((rd_T44 l1 a0).f2).length d7]] (by rfl) rfl rfl zM ?_
      with_reducible refine (laws_eqEntry.calls k2 ((rd_T44 l0 a0).f0) ((rd_T44 l0 a0).f1.f0) ((rd_T44 l0 a0).f1.f1) ((rd_T44 l0 a0).f1.f2) _ _ ((rd_T44 l0 a0).f1.f3) _ _ ((rd_T44 l0 a0).f2) ((rd_T44 l1 a0).f0) ((rd_T44 l1 a0).f1.f0) ((rd_T44 l1 a0).f1.f1) ((rd_T44 l1 a0).f1.f2) _ _ ((rd_T44 l1 a0).f1.f3) _ _ ((rd_T44 l1 a0).f2) false _ ?s1 ?s2 ?s3 ?s4 ?s5 ?s6 ?s7 ?s8 A8.out).mono ?_
      (case s1 => exact zC (Kd.C_below d2.out HB.out))
      (case s2 => exact e8.out)
      (case s3 => exact zC (Kd.C_below d3.out HB.out))
      (case s4 => exact e9.out)
      (case s5 => exact zC (Kd.C_below e2.out HB.out))
      (case s6 => exact f5.out)
      (case s7 => exact zC (Kd.C_below e3.out HB.out))
      (case s8 => exact f6.out)
      rintro e i9 ⟨rfl, hb⟩
      refine ⟨_, rfl, ?_⟩
      replace HB := zA (below_step (zB) hb)
      (try clear hb)
      refine hK.out _ _ zO fun hHeld => ?_
      clear hK K; refine zn ?_; refine zp 9 26 ?_
      refine done_ (done_of HT_.out (by kernel_rfl)) ?_
      try go_wp2
      go_ret
      exact ⟨zE, zB⟩
     obtain rfl := zm H
     go_wp2
     go_ret
     exact ⟨zE, zB⟩
/-! ### laws_markText: function 57 -/
mutual
def laws_markText.j0 : Nat → Int → Option (ByteArray)
 | 0, _ => none
 | k + 1, x0 => laws_markText.l0 k x0 (⟨#[]⟩ : ByteArray)
def laws_markText.l0 : Nat → Int → ByteArray → Option (ByteArray)
 | 0, _, _ => none
 | k + 1, x0, x3 => if x0 > 0 then ((some (([(wrap64 (48 + (Int.tmod x0 10))) % 256] : List Int) : List Int)).bind fun a0 => (if (strOfNums a0).size + x3.size ≤ 9223372036854775807 then (laws_markText.l0 k (wrap64 (Int.tdiv x0 10)) ((strOfNums a0) ++ x3)) else (none))) else (if 1 + x3.size ≤ 9223372036854775807 then (some ((⟨#[109]⟩ : ByteArray) ++ x3)) else (none))
end
def laws_markText.f (k : Nat) (a0 : Int) : Option (ByteArray) := if a0 ≤ 0 then (some (⟨#[109, 48]⟩ : ByteArray)) else (laws_markText.j0 k a0)
theorem laws_markText.calls (k : Nat) (a0 : Int) (r : ByteArray) (w : World) (h : laws_markText.f k a0 = some r) :
  Calls Try.prog 57 #[.int .i64 a0] w fun e w' => e = .returned (.string r) ∧ Below w.heap.size w w' := by
 have HB := zA (Below.refl w.heap.size w)
 unfold laws_markText.f at h
 have H := h
 clear h
 have a6 := zA H
 clear H
 go_enter Try.func57, Try.ntmps57
 go_upto_if 5 with (fail)
 go_cut [] (fun wc => ∃ (kq : Nat), Aside0 (laws_markText.j0 kq a0 = some r) ∧ Aside0 (kq ≤ k) ∧ Aside0 (Below w.heap.size w wc))
 case first =>
  have H := a6.out; clear a6; replace H := zI0 H
  rcases H with ⟨a3, H⟩ | ⟨a3, H⟩
  ·(first | rw [a3] | (simp only [i64_w, i32_w]; rw [a3]) | skip)
   obtain rfl := zm H
   go_wp2
   go_ret
   exact ⟨zE, zB⟩
  (first | rw [a3] | (simp only [i64_w, i32_w]; rw [a3]) | skip)
  have H' := zA H; clear H
  go_wp2
  go_meet
  case rel => exact ⟨_, (by first | exact H' | (subst_vars; exact H')), ⟨by first | omega | exact Nat.le_refl _⟩, ⟨zB⟩⟩
 case rest =>
  clear a6
  try clear p2
  try clear c3
  try clear a3
  obtain ⟨kq, HA, a8, HB⟩ := hcut
  cases kq with
  | zero => exact absurd HA.out (by simp [laws_markText.j0])
  | succ a9 =>
   have H := HA.out; clear HA; simp only [laws_markText.j0] at H; have H' := zA H; clear H
   go_wp2
   go_loopg [0, 3] a9 (fun kq v0 v3 w' => ∃ (a1 : Int) (a2 : ByteArray), v0 = .int .i64 a1 ∧ v3 = .string a2 ∧ Aside0 (laws_markText.l0 kq a1 a2 = some r) ∧ Aside0 (kq ≤ a9) ∧ Aside0 (Below w.heap.size w w'))
   case atStart => exact ⟨(a0), ((⟨#[]⟩ : ByteArray)), zS, zS, H', ⟨Nat.le_refl _⟩, ⟨zB⟩⟩
   case round =>
    clear H'
    try clear p2
    try clear c3
    try clear a3
    try clear p2
    obtain ⟨a1, a2, rfl, rfl, HA, b0, HB⟩ := hrel
    cases gk with
    | zero => exact absurd HA.out (by simp [laws_markText.l0])
    | succ k2 =>
     have H := HA.out; clear HA; simp only [laws_markText.l0] at H; replace H := zI1 H
     rcases H with ⟨c4, H⟩ | ⟨c4, H⟩
     ·have b2 : decide (0 < a1) = true := decide_eq_true c4; clear c4; obtain ⟨a5, a7⟩ : ∃ y_ : List Int, y_ = (([(wrap64 (48 + (Int.tmod a1 10))) % 256] : List Int)) := ⟨_, rfl⟩; replace H : (if (strOfNums a5).size + a2.size ≤ 9223372036854775807 then (laws_markText.l0 k2 (wrap64 (Int.tdiv a1 10)) ((strOfNums a5) ++ a2)) else (none)) = some r := zY a7 H; have b1 := zA a7; clear a7; replace H := zC0 H; obtain ⟨c5, H⟩ := H; have b4 := eq_true c5; have b5 := decide_eq_true c5
      try have b6 : (9223372036854775807 < (strOfNums a5).size + a2.size) = False := eq_false (Nat.not_lt.2 c5)
      have H' := zA H; clear H
      go_wp2_with (first | ((with_reducible refine gate_dst (N := 12) rfl ?_); refine Kd.R_lit (Kd.int .u8) _ 5 ?hg (N := 12) ?hd (xs := ([(wrap64 (48 + (Int.tmod a1 10))) % 256] : List Int)) (inner := [.int .u8 ((wrap64 (48 + (Int.tmod a1 10))) % 256)]) (ok := fun _ => True) ?hr ?hp (fun _ hk => hk) trivial (Below.refl _ _) (Nat.le_refl _) (by simp) ?_; (case hd => rfl); (case hg => rfl); (case hr => first | (go_simp; done) | (go_simp; rfl)); (case hp => exact (Reps.one (show Kd.M (Kd.int .u8) _ _ _ ((wrap64 (48 + (Int.tmod a1 10))) % 256) [.int .u8 ((wrap64 (48 + (Int.tmod a1 10))) % 256)] from rfl) (Reps.none _ _))); intro b7 w6 a4 hb hg_ hnew_; clear hg_ hnew_; (first | rw [← b1.out] at a4 | (simp only [Int.reduceToNat] at a4; rw [← b1.out] at a4)); have b3 := zA (Kd.R_lower a4 (below_size (zB))); replace HB := zA (below_step (zB) hb); clear hb a4; have b8 := own_string (P := Try.prog) Try.underlying111 Try.underlying5 Try.underlying9 (Kd.own_of_R b3.out)))
      go_roundg k2
      case measure => have := a8.out; have := b0.out; omega
      case rel => exact ⟨(wrap64 (Int.tdiv a1 10)), ((strOfNums a5) ++ a2), zS, zS, H', ⟨by have := a8.out; have := b0.out; omega⟩, ⟨zB⟩⟩
     have b2 : decide (0 < a1) = false := decide_eq_false c4; clear c4; replace H := zC0 H; obtain ⟨c9, H⟩ := H; have b9 := eq_true c9; have c0 := decide_eq_true c9
     try have c1 : (9223372036854775807 < 1 + a2.size) = False := eq_false (Nat.not_lt.2 c9)
     obtain rfl := zm H
     go_wp2
     go_ret
     exact ⟨zE, zB⟩
/-! ### laws_markStringS: function 47 -/
def laws_markStringS.l0 : Nat → List ByteArray → Int → Int → Option (Int × List ByteArray)
 | 0, _, _, _ => none
 | k + 1, x0, x1, x5 => if x5 < (x0.length : Int) then ((laws_markText.f k x1).bind fun a0 => (if 0 ≤ x5 then (laws_markStringS.l0 k (x0.set (x5 : Int).toNat a0) (wrap64 (x1 + 1)) (wrap64 (x5 + 1))) else (none))) else (some (x1, x0))
def laws_markStringS.f (k : Nat) (l0 : List ByteArray) (a1 : Int) : Option (Int × List ByteArray) := laws_markStringS.l0 k l0 a1 0
theorem laws_markStringS.calls (k : Nat) (a3 : Nat → Prop) (a6 : Value) (l0 : List ByteArray) (a1 r1 : Int) (r2 : List ByteArray) (w0 w : World) (hB : Below w0.heap.size w0 w) (b8 : Kd.R Kd.string 9 w w0.heap.size a3 a6 l0) (h : laws_markStringS.f k l0 a1 = some (r1, r2)) :
  Calls Try.prog 47 #[a6, .int .i64 a1] w fun e w' => e = .returned (.int .i64 r1) ∧ Kd.R Kd.string 9 w' w0.heap.size (fun k_ => (a3 k_ ∨ w.heap.size ≤ k_)) a6 r2 ∧ Below w0.heap.size w0 w' ∧ Kept w w' (fun k_ => a3 k_) := by
 have b9 := zA (show Kd.R Kd.string 9 w w0.heap.size (fun k_ => (a3 k_ ∨ w.heap.size ≤ k_)) a6 l0 from Kd.R_mono b8 (fun k_ hk => (.inl hk)))
 have HK := zA (Kept.refl w (fun k_ => a3 k_))
 have c7 := zA hB.size
 have HB := zA hB
 clear hB
 unfold laws_markStringS.f at h
 have H := h
 clear h
 have H' := zA H
 clear H
 go_enter Try.func47, Try.ntmps47
 go_wp2
 go_loopg [1, 5] k (fun kq v1 v5 w' => ∃ (a5 : List ByteArray) (a4 : Int) (a2 : Int), v1 = .int .i64 a4 ∧ v5 = .int .i64 a2 ∧ Aside0 (laws_markStringS.l0 kq a5 a4 a2 = some (r1, r2)) ∧ Aside0 (kq ≤ k) ∧ Aside0 (Kd.R Kd.string 9 w' w0.heap.size (fun k_ => (a3 k_ ∨ w.heap.size ≤ k_)) a6 a5) ∧ Aside0 (Kept w w' (fun k_ => a3 k_)) ∧ Aside0 (Below w0.heap.size w0 w'))
 case atStart => exact ⟨(l0), (a1), (0), zS, zS, H', ⟨Nat.le_refl _⟩, ⟨zR b9.out⟩, ⟨by repeat (first | (with_reducible first | exact HK.out | apply Kept.alloc | apply Kept.drewN | apply Kept.drew) | exact HK.out)⟩, ⟨zB⟩⟩
 case round =>
  clear H'
  try clear p2
  obtain ⟨a5, a4, a2, rfl, rfl, HA, b3, a0, HK, HB⟩ := hrel
  cases gk with
  | zero => exact absurd HA.out (by simp [laws_markStringS.l0])
  | succ k1 =>
   have H := HA.out; clear HA; simp only [laws_markStringS.l0] at H; replace H := zI0 H
   rcases H with ⟨c0, H⟩ | ⟨c0, H⟩
   ·replace H := Option.bind_eq_some_iff.mp H; obtain ⟨a8, b4, H⟩ := H
    try dsimp only at H
    have A4 := zA b4; clear b4; replace H := zD0 H; obtain ⟨c8, H⟩ := H; obtain ⟨a9, b0⟩ : ∃ y_ : List ByteArray, y_ = (a5.set (a2 : Int).toNat a8) := ⟨_, rfl⟩; replace H : (laws_markStringS.l0 k1 a9 (wrap64 (a4 + 1)) (wrap64 (a2 + 1))) = some (r1, r2) := zY b0 H; have c1 := zA b0; clear b0; have H' := zA H; clear H; obtain ⟨c9, c2, c3⟩ := Kd.R_slice a0.out; subst c3
    go_wp2_with (first | ((with_reducible refine zq 57 ?_); refine zg (some 15) Try.func57 #[.int .i64 a4] ?_; (with_reducible refine (laws_markText.calls k1 a4 a8 _ A4.out).mono ?_); rintro e w8 ⟨rfl, hb⟩; refine ⟨_, rfl, ?_⟩; replace a0 := zr a0 hb; replace HK := zA (Kept.below (S := (fun k_ => a3 k_)) (by repeat (first | (with_reducible first | exact HK.out | apply Kept.alloc | apply Kept.drewN | apply Kept.drew) | exact HK.out)) hb); replace HB := zA (below_step (zB) hb); (try clear hb); have p6 : 0 ≤ (a2 : Int) := zD; have q6 : (a2 : Int) < ((a5.length : Int) : Int) := zD; obtain ⟨a7, d0, b5, b6, c4, d1, b7⟩ := Kd.R_form a0.out (by omega); (first | cases b5 | (injection b5 with ea_ en_ ec_; (first | subst ea_ | (injection ea_ with ea_; subst ea_)); subst ec_; clear en_)); have c5 := zA b6; have d2 := zA b7; clear b6 c4 b7; have d3 := zA (show (a3 a7 ∨ w.heap.size ≤ a7) from (a0.out.1 _ rfl)); obtain ⟨d4, d5⟩ := Kd.R_celln (⟨#[]⟩ : ByteArray) a0.out (a2 : Int) p6 q6; replace p6 := eq_true p6; replace q6 := eq_true q6; obtain ⟨d6, d7⟩ := Kd.R_celln (⟨#[]⟩ : ByteArray) a0.out (a2 : Int) (zD) (zD); have b1 := Kd.R_putg a0.out (a2 : Int) a8) | ((with_reducible refine gate_store (t := 9) (p := 16) rfl ?_); refine store_event (t := 9) (p := 16) (v := ?vo_w10) (w1 := (w8.setCell ⟨a7, (a2 : Int).toNat, none⟩ (.string a8))) ?hg ?ho ?hn ?hr ?_; (case ho => rfl); (case hg => rfl); (case hn => rfl); (case hr => first | (go_simp; done) | (go_simp; rfl)); intro b2 hw; have hg : w8.grownBy b2 (some a7) := (by rw [hw]; exact b1.2); have hp_ : Kd.R Kd.string 9 b2 w0.heap.size (fun k_ => (a3 k_ ∨ w.heap.size ≤ k_)) (.slice (some ⟨a7, 0, none⟩) a5.length c2) a9 := (by rw [hw, c1.out]; exact b1.1); clear b1; replace HB := zA ((by rw [hw]; exact below_set (HB.out) c5.out : Below w0.heap.size w0 b2)); replace HK := zA (Kept.of_grown (S := (fun k_ => a3 k_)) hg (by repeat (first | (with_reducible first | exact HK.out | apply Kept.alloc | apply Kept.drewN | apply Kept.drew) | exact HK.out)) (fun k_ e_ => (a0.out.1 k_ e_))); replace a0 := zA (hp_); clear hg hw hp_))
    go_roundg k1
    case measure => have := b3.out; omega
    case rel => exact ⟨(a9), (wrap64 (a4 + 1)), (wrap64 (a2 + 1)), zS, zS, H', ⟨by have := b3.out; omega⟩, ⟨zR a0.out⟩, ⟨by repeat (first | (with_reducible first | exact HK.out | apply Kept.alloc | apply Kept.drewN | apply Kept.drew) | exact HK.out)⟩, ⟨zB⟩⟩
   simp only [zU] at H; obtain ⟨rfl, rfl⟩ := H; obtain ⟨d8, d9, c6⟩ := Kd.R_slice a0.out; subst c6
   go_wp2
   go_ret
   exact ⟨zE, zR a0.out, zB, by repeat (first | (with_reducible first | exact HK.out | apply Kept.alloc | apply Kept.drewN | apply Kept.drew) | exact HK.out)⟩
/-! ### laws_markNeedS: function 58 -/
def laws_markNeedS.l0 : Nat → List (S94) → Int → Int → Option (Int × (List (S94)))
 | 0, _, _, _ => none
 | k + 1, x0, x1, x5 => if x5 < (x0.length : Int) then ((laws_markText.f k x1).bind fun a1 => (if 0 ≤ x5 then ((some (x0.set (x5 : Int).toNat (⟨a1, (rd_T94 x0 x5).f1⟩ : S94) : List (S94))).bind fun a0 => ((laws_markText.f k (wrap64 (x1 + 1))).bind fun a2 => (laws_markNeedS.l0 k (a0.set (x5 : Int).toNat (⟨(rd_T94 a0 x5).f0, a2⟩ : S94)) (wrap64 ((wrap64 (x1 + 1)) + 1)) (wrap64 (x5 + 1))))) else (none))) else (some (x1, x0))
def laws_markNeedS.f (k : Nat) (l0 : List (S94)) (a1 : Int) : Option (Int × (List (S94))) := laws_markNeedS.l0 k l0 a1 0
theorem laws_markNeedS.calls (k : Nat) (a5 : Nat → Prop) (b2 : Value) (l0 : List (S94)) (a1 r1 : Int) (r2 : List (S94)) (w0 w : World) (hB : Below w0.heap.size w0 w) (e4 : Kd.R k94 94 w w0.heap.size a5 b2 l0) (h : laws_markNeedS.f k l0 a1 = some (r1, r2)) :
  Calls Try.prog 58 #[b2, .int .i64 a1] w fun e w' => e = .returned (.int .i64 r1) ∧ Kd.R k94 94 w' w0.heap.size (fun k_ => (a5 k_ ∨ w.heap.size ≤ k_)) b2 r2 ∧ Below w0.heap.size w0 w' ∧ Kept w w' (fun k_ => a5 k_) := by
 have e5 := zA (show Kd.R k94 94 w w0.heap.size (fun k_ => (a5 k_ ∨ w.heap.size ≤ k_)) b2 l0 from Kd.R_mono e4 (fun k_ hk => (.inl hk)))
 have HK := zA (Kept.refl w (fun k_ => a5 k_))
 have g0 := zA hB.size
 have HB := zA hB
 clear hB
 unfold laws_markNeedS.f at h
 have H := h
 clear h
 have H' := zA H
 clear H
 go_enter Try.func58, Try.ntmps58
 go_wp2
 go_loopg [1, 5] k (fun kq v1 v5 w' => ∃ (a3 : List (S94)) (a6 : Int) (a0 : Int), v1 = .int .i64 a6 ∧ v5 = .int .i64 a0 ∧ Aside0 (laws_markNeedS.l0 kq a3 a6 a0 = some (r1, r2)) ∧ Aside0 (kq ≤ k) ∧ Aside0 (Kd.R k94 94 w' w0.heap.size (fun k_ => (a5 k_ ∨ w.heap.size ≤ k_)) b2 a3) ∧ Aside0 (Kept w w' (fun k_ => a5 k_)) ∧ Aside0 (Below w0.heap.size w0 w'))
 case atStart => exact ⟨(l0), (a1), (0), zS, zS, H', ⟨Nat.le_refl _⟩, ⟨zR e5.out⟩, ⟨by repeat (first | (with_reducible first | exact HK.out | apply Kept.alloc | apply Kept.drewN | apply Kept.drew) | exact HK.out)⟩, ⟨zB⟩⟩
 case round =>
  clear H'
  try clear p2
  obtain ⟨a3, a6, a0, rfl, rfl, HA, c7, a2, HK, HB⟩ := hrel
  cases gk with
  | zero => exact absurd HA.out (by simp [laws_markNeedS.l0])
  | succ k1 =>
   have H := HA.out; clear HA; simp only [laws_markNeedS.l0] at H; replace H := zI0 H
   rcases H with ⟨e6, H⟩ | ⟨e6, H⟩
   ·replace H := Option.bind_eq_some_iff.mp H; obtain ⟨b1, c8, H⟩ := H
    try dsimp only at H
    have A4 := zA c8; clear c8; replace H := zD0 H; obtain ⟨g1, H⟩ := H; obtain ⟨a7, b4⟩ : ∃ y_ : List (S94), y_ = (a3.set (a0 : Int).toNat (⟨b1, (rd_T94 a3 a0).f1⟩ : S94)) := ⟨_, rfl⟩; replace H : ((laws_markText.f k1 (wrap64 (a6 + 1))).bind fun a8 => (laws_markNeedS.l0 k1 (a7.set (a0 : Int).toNat (⟨(rd_T94 a7 a0).f0, a8⟩ : S94)) (wrap64 ((wrap64 (a6 + 1)) + 1)) (wrap64 (a0 + 1)))) = some (r1, r2) := zY b4 H; have e7 := zA b4; clear b4; replace H := Option.bind_eq_some_iff.mp H; obtain ⟨a8, c9, H⟩ := H
    try dsimp only at H
    have A7 := zA c9; clear c9; obtain ⟨b5, b6⟩ : ∃ y_ : List (S94), y_ = (a7.set (a0 : Int).toNat (⟨(rd_T94 a7 a0).f0, a8⟩ : S94)) := ⟨_, rfl⟩; replace H : (laws_markNeedS.l0 k1 b5 (wrap64 ((wrap64 (a6 + 1)) + 1)) (wrap64 (a0 + 1))) = some (r1, r2) := zY b6 H; have e8 := zA b6; clear b6; have H' := zA H; clear H; obtain ⟨g2, b3, e9⟩ := Kd.R_slice a2.out; subst e9
    go_wp2_with (first | ((with_reducible refine zq 57 ?_); refine zg (some 15) Try.func57 #[.int .i64 a6] ?_; (with_reducible refine (laws_markText.calls k1 a6 b1 _ A4.out).mono ?_); rintro e a9 ⟨rfl, hb⟩; refine ⟨_, rfl, ?_⟩; replace a2 := zr a2 hb; replace HK := zA (Kept.below (S := (fun k_ => a5 k_)) (by repeat (first | (with_reducible first | exact HK.out | apply Kept.alloc | apply Kept.drewN | apply Kept.drew) | exact HK.out)) hb); replace HB := zA (below_step (zB) hb); (try clear hb); have p6 : 0 ≤ (a0 : Int) := zD; have q6 : (a0 : Int) < ((a3.length : Int) : Int) := zD; obtain ⟨a4, g3, d0, d1, f2, g4, d2⟩ := Kd.R_form a2.out (by omega); (first | cases d0 | (injection d0 with ea_ en_ ec_; (first | subst ea_ | (injection ea_ with ea_; subst ea_)); subst ec_; clear en_)); have d3 := zA d1; have g5 := zA d2; clear d1 f2 d2; have g6 := zA (show (a5 a4 ∨ w.heap.size ≤ a4) from (a2.out.1 _ rfl)); obtain ⟨g7, f3, d4, b7, b8⟩ := Kd.R_elem a2.out z94 (a0 : Int) p6 q6; obtain rfl := k94_openM d4; have g8 : a9.cell? ⟨a4, (a0 : Int).toNat * 2, none⟩ = some (.string ((rd_T94 a3 a0).f0)) := b7 0 _ rfl; have g9 : a9.cell? ⟨a4, (a0 : Int).toNat * 2 + 1, none⟩ = some (.string ((rd_T94 a3 a0).f1)) := b7 1 _ rfl; have h0 : a9.frozen? ⟨a4, (a0 : Int).toNat * 2, none⟩ = false := b8 0; have h1 : a9.frozen? ⟨a4, (a0 : Int).toNat * 2 + 1, none⟩ = false := b8 1; clear f3 b7 b8; (try clear d4); replace p6 := eq_true p6; replace q6 := eq_true q6; have d5 := zA (show Kd.R k94 94 a9 w0.heap.size (fun k_ => (a5 k_ ∨ w.heap.size ≤ k_)) (.slice (some ⟨a4, 0, none⟩) a3.length b3) a3 from (zR a2.out)); obtain ⟨h2, d6, d7, b9, d8⟩ := Kd.R_elem d5.out z94 (a0 : Int) (zD) (by have h_ : (a0 : Int) < ((a3.length : Int) : Int) := zD; first | exact h_ | (have e_ := (Kd.R_reads' a2.out).1; omega) | simpa using h_); obtain rfl := k94_openM d7; have c0 := Kd.R_seg d5.out (a0 : Int) (zD) (by have h_ : (a0 : Int) < ((a3.length : Int) : Int) := zD; first | exact h_ | (have e_ := (Kd.R_reads' a2.out).1; omega) | simpa using h_) (seg := [.string b1]) (j := 0) d6 b9 (show 1 ≤ 2 from by decide) (x' := (⟨b1, (rd_T94 a3 a0).f1⟩ : S94)) (k94_mkM _ _ _ (⟨b1, (rd_T94 a3 a0).f1⟩ : S94) ) (fun _ hk => hk); have f4 := b9 0 _ rfl; (try simp only [show (k94).sz = 2 from rfl, Nat.mul_one, Nat.add_zero] at f4); have f5 := d8 0; (try simp only [show (k94).sz = 2 from rfl, Nat.mul_one, Nat.add_zero] at f5); clear d6 b9 d8; (try clear d7)) | ((with_reducible refine gate_store (t := 9) (p := 17) rfl ?_); refine store_event (t := 9) (p := 17) (v := ?vo_w12) (w1 := (a9.setCell ⟨a4, (a0 : Int).toNat * 2, none⟩ (.string b1))) ?hg ?ho ?hn ?hr ?_; (case ho => rfl); (case hg => rfl); (case hn => rfl); (case hr => first | (go_simp; done) | (go_simp; rfl)); intro c1 hw; have hg : a9.grownBy c1 (some a4) := (by rw [hw]; exact c0.2); have hp_ : Kd.R k94 94 c1 w0.heap.size (fun k_ => (a5 k_ ∨ w.heap.size ≤ k_)) (.slice (some ⟨a4, 0, none⟩) a3.length b3) a7 := (by rw [hw, e7.out]; exact c0.1); clear c0; replace HB := zA ((by rw [hw]; exact below_set (HB.out) d3.out : Below w0.heap.size w0 c1)); replace HK := zA (Kept.of_grown (S := (fun k_ => a5 k_)) hg (by repeat (first | (with_reducible first | exact HK.out | apply Kept.alloc | apply Kept.drewN | apply Kept.drew) | exact HK.out)) (fun k_ e_ => (a2.out.1 k_ e_))); replace a2 := zA (hp_); clear hg hw hp_) | ((with_reducible refine zq 57 ?_); refine zg (some 23) Try.func57 #[.int .i64 (wrap64 (a6 + 1))] ?_; (with_reducible refine (laws_markText.calls k1 (wrap64 (a6 + 1)) a8 _ A7.out).mono ?_); rintro e b0 ⟨rfl, hb⟩; refine ⟨_, rfl, ?_⟩; replace a2 := zr a2 hb; replace HK := zA (Kept.below (S := (fun k_ => a5 k_)) (by repeat (first | (with_reducible first | exact HK.out | apply Kept.alloc | apply Kept.drewN | apply Kept.drew) | exact HK.out)) hb); replace HB := zA (below_step (zB) hb); (try clear hb); have p8 : 0 ≤ (a0 : Int) := zD; have q8 : (a0 : Int) < ((a3.length : Int) : Int) := zD; obtain ⟨h3, f6, d9, c2, c3⟩ := Kd.R_elem a2.out z94 (a0 : Int) p8 q8; obtain rfl := k94_openM d9; have h4 : b0.cell? ⟨a4, (a0 : Int).toNat * 2, none⟩ = some (.string ((rd_T94 a7 a0).f0)) := c2 0 _ rfl; have h5 : b0.cell? ⟨a4, (a0 : Int).toNat * 2 + 1, none⟩ = some (.string ((rd_T94 a7 a0).f1)) := c2 1 _ rfl; have h6 : b0.frozen? ⟨a4, (a0 : Int).toNat * 2, none⟩ = false := c3 0; have h7 : b0.frozen? ⟨a4, (a0 : Int).toNat * 2 + 1, none⟩ = false := c3 1; clear f6 c2 c3; (try clear d9); replace p8 := eq_true p8; replace q8 := eq_true q8; have e0 := zA (show Kd.R k94 94 b0 w0.heap.size (fun k_ => (a5 k_ ∨ w.heap.size ≤ k_)) (.slice (some ⟨a4, 0, none⟩) a3.length b3) a7 from (zR a2.out)); obtain ⟨h8, e1, e2, c4, e3⟩ := Kd.R_elem e0.out z94 (a0 : Int) (zD) (by have h_ : (a0 : Int) < ((a3.length : Int) : Int) := zD; first | exact h_ | (have e_ := (Kd.R_reads' a2.out).1; omega) | simpa using h_); obtain rfl := k94_openM e2; have c5 := Kd.R_seg e0.out (a0 : Int) (zD) (by have h_ : (a0 : Int) < ((a3.length : Int) : Int) := zD; first | exact h_ | (have e_ := (Kd.R_reads' a2.out).1; omega) | simpa using h_) (seg := [.string a8]) (j := 1) e1 c4 (show 2 ≤ 2 from by decide) (x' := (⟨(rd_T94 a7 a0).f0, a8⟩ : S94)) (k94_mkM _ _ _ (⟨(rd_T94 a7 a0).f0, a8⟩ : S94) ) (fun _ hk => hk); have f7 := c4 1 _ rfl; (try simp only [show (k94).sz = 2 from rfl, Nat.mul_one, Nat.add_zero] at f7); have f8 := e3 1; (try simp only [show (k94).sz = 2 from rfl, Nat.mul_one, Nat.add_zero] at f8); clear e1 c4 e3; (try clear e2)) | ((with_reducible refine gate_store (t := 9) (p := 25) rfl ?_); refine store_event (t := 9) (p := 25) (v := ?vo_w15) (w1 := (b0.setCell ⟨a4, (a0 : Int).toNat * 2 + 1, none⟩ (.string a8))) ?hg ?ho ?hn ?hr ?_; (case ho => rfl); (case hg => rfl); (case hn => rfl); (case hr => first | (go_simp; done) | (go_simp; rfl)); intro c6 hw; have hg : b0.grownBy c6 (some a4) := (by rw [hw]; exact c5.2); have hp_ : Kd.R k94 94 c6 w0.heap.size (fun k_ => (a5 k_ ∨ w.heap.size ≤ k_)) (.slice (some ⟨a4, 0, none⟩) a3.length b3) b5 := (by rw [hw, e8.out]; exact c5.1); clear c5; replace HB := zA ((by rw [hw]; exact below_set (HB.out) d3.out : Below w0.heap.size w0 c6)); replace HK := zA (Kept.of_grown (S := (fun k_ => a5 k_)) hg (by repeat (first | (with_reducible first | exact HK.out | apply Kept.alloc | apply Kept.drewN | apply Kept.drew) | exact HK.out)) (fun k_ e_ => (a2.out.1 k_ e_))); replace a2 := zA (hp_); clear hg hw hp_))
    go_roundg k1
    case measure => have := c7.out; omega
    case rel => exact ⟨(b5), (wrap64 ((wrap64 (a6 + 1)) + 1)), (wrap64 (a0 + 1)), zS, zS, H', ⟨by have := c7.out; omega⟩, ⟨zR a2.out⟩, ⟨by repeat (first | (with_reducible first | exact HK.out | apply Kept.alloc | apply Kept.drewN | apply Kept.drew) | exact HK.out)⟩, ⟨zB⟩⟩
   simp only [zU] at H; obtain ⟨rfl, rfl⟩ := H; obtain ⟨h9, i0, f9⟩ := Kd.R_slice a2.out; subst f9
   go_wp2
   go_ret
   exact ⟨zE, zR a2.out, zB, by repeat (first | (with_reducible first | exact HK.out | apply Kept.alloc | apply Kept.drewN | apply Kept.drew) | exact HK.out)⟩
/-! ### laws_markEntryS: function 23 -/
def laws_markEntryS.el (k : Nat) (x : S44) (n : Int) : Option (Int × S44) := (laws_markText.f k n).bind fun t0 => (laws_markStringS.f k x.f1.f3 (wrap64 ((wrap64 ((wrap64 ((wrap64 (n + 1)) + 1)) + 1)) + 1))).bind fun (z_ : Int × _) => (fun p4n p4l => (laws_markNeedS.f k x.f2 p4n).bind fun (z_ : Int × _) => (fun p5n p5l => some (p5n, (⟨t0, ⟨(wrap64 (n + 1)), (wrap64 ((wrap64 (n + 1)) + 1)), (wrap64 ((wrap64 ((wrap64 (n + 1)) + 1)) + 1)), p4l⟩, p5l⟩ : S44))) z_.1 z_.2) z_.1 z_.2
def laws_markEntryS.l (k : Nat) : List S44 → Int → Option (Int × List S44)
 | [], n => some (n, [])
 | x :: r, n => (laws_markEntryS.el k x n).bind fun p => (laws_markEntryS.l k r p.1).bind fun q => some (q.1, p.2 :: q.2)
def laws_markEntryS.f (k : Nat) (l0 : List S44) (a1 : Int) : Option (Int × List S44) := laws_markEntryS.l k l0 a1
theorem laws_markEntryS.calls (k : Nat) (a6 : Nat → Prop) (b3 : Value) (l0 : List S44) (a1 r1 : Int) (r2 : List S44) (w0 w : World) (hB : Below w0.heap.size w0 w) (a9 : Kd.S k44 44 w w0.heap.size a6 b3 l0) (h : laws_markEntryS.f k l0 a1 = some (r1, r2)) :
  Calls Try.prog 23 #[b3, .int .i64 a1] w fun e w' => e = .returned (.int .i64 r1) ∧ Kd.S k44 44 w' w0.heap.size a6 b3 r2 ∧ Below w0.heap.size w0 w' ∧ Kept w w' a6 := by
 have hu_ := Try.underlying47
 obtain ⟨A, c, rfl⟩ := Kd.S_slice a9
 have HMAX := zA (show l0.length ≤ 9223372036854775807 from (Kd.S_reads' a9).2.2.2.1)
 have HO := zA a9
 have HK := zA (Kept.refl w a6)
 have HB := zA hB
 clear hB a9
 have H' := zA (show laws_markEntryS.l k l0 a1 = some (r1, r2) from h)
 clear h
 go_enter Try.func23, Try.ntmps23
 go_wp2
 go_loopg [1, 5] l0.length (fun gg v1 v5 w' => ∃ (kk : Nat) (x1 x5 : Int) (done rest : List S44) (tl : List S44), v1 = .int .i64 x1 ∧ v5 = .int .i64 x5 ∧ x5 = (kk : Int) ∧ l0.length - kk ≤ gg ∧ done.length = kk ∧ Aside0 (kk + rest.length = l0.length) ∧ Aside0 (laws_markEntryS.l k rest x1 = some (r1, tl)) ∧ Aside0 (r2 = done ++ tl) ∧ Aside0 (Kd.S k44 44 w' w0.heap.size a6 (.slice A l0.length c) (done ++ rest)) ∧ Aside0 (Kept w w' a6) ∧ Aside0 (Below w0.heap.size w0 w'))
 case atStart => exact ⟨0, a1, 0, [], l0, r2, rfl, rfl, rfl, by omega, rfl, ⟨by omega⟩, H', ⟨rfl⟩, ⟨by (with_reducible repeat (first | apply Kd.S_alloc | apply Kd.S_drewN | apply Kd.S_drew)); exact HO.out⟩, ⟨by (repeat (first | (with_reducible first | exact HK.out | apply Kept.alloc | apply Kept.drewN | apply Kept.drew) | exact HK.out))⟩, ⟨by (repeat (first | (with_reducible first | exact HB.out | apply below_alloc | apply pw_below_drewN | apply below_drew1) | exact HB.out))⟩⟩
 case round =>
  clear HO HK HB H'; obtain ⟨kk, x1, x5, done, rest, tl, rfl, rfl, b7, hg, hdl, hrl, HA, b8, HO, HK, HB⟩ := hrel
  cases rest with
  | nil =>
   have hlt : ¬ (x5 < (l0.length : Int)) := by have := hrl.out; simp at this; omega
   have H := HA.out; simp only [laws_markEntryS.l, Option.some.injEq, Prod.mk.injEq] at H; obtain ⟨rfl, rfl⟩ := H; have c1 := b8.out; subst c1
   simp only [List.append_nil] at HO ⊢
   have HOO := HO; clear HO b7 hg hdl; have HO := HOO
   go_wp2
   go_ret
   exact ⟨rfl, by (with_reducible repeat (first | apply Kd.S_alloc | apply Kd.S_drewN | apply Kd.S_drew)); exact HO.out, by (repeat (first | (with_reducible first | exact HB.out | apply below_alloc | apply pw_below_drewN | apply below_drew1) | exact HB.out)), by (repeat (first | (with_reducible first | exact HK.out | apply Kept.alloc | apply Kept.drewN | apply Kept.drew) | exact HK.out))⟩
  | cons x rest =>
   have hltz : x5 < (l0.length : Int) := by have := hrl.out; simp at this; omega
   have h0z : 0 ≤ x5 := by omega
   have H := HA.out; unfold laws_markEntryS.l at H; replace H := Option.bind_eq_some_iff.mp H; obtain ⟨⟨n1, x'⟩, hel, H⟩ := H; replace H := Option.bind_eq_some_iff.mp H; obtain ⟨⟨n2, b9⟩, hl, H⟩ := H; simp only [zU] at H; obtain ⟨rfl, rfl⟩ := H; unfold laws_markEntryS.el at hel; replace hel := Option.bind_eq_some_iff.mp hel; obtain ⟨t0, h_t0, hel⟩ := hel; have A_t0 := zA (show laws_markText.f k x1 = some t0 from h_t0); clear h_t0; replace hel := Option.bind_eq_some_iff.mp hel; obtain ⟨⟨p4n, p4l⟩, h_p4, hel⟩ := hel; have A_p4 := zA (show laws_markStringS.f k x.f1.f3 (wrap64 ((wrap64 ((wrap64 ((wrap64 (x1 + 1)) + 1)) + 1)) + 1)) = some (p4n, p4l) from h_p4); clear h_p4; replace hel := Option.bind_eq_some_iff.mp hel; obtain ⟨⟨p5n, p5l⟩, h_p5, hel⟩ := hel; have A_p5 := zA (show laws_markNeedS.f k x.f2 p4n = some (p5n, p5l) from h_p5); clear h_p5; replace hel : some (p5n, (⟨t0, ⟨(wrap64 (x1 + 1)), (wrap64 ((wrap64 (x1 + 1)) + 1)), (wrap64 ((wrap64 ((wrap64 (x1 + 1)) + 1)) + 1)), p4l⟩, p5l⟩ : S44)) = some (n1, x') := hel
   simp only [Option.some.injEq, Prod.mk.injEq] at hel
   obtain ⟨rfl, rfl⟩ := hel; have AL := zA (show laws_markEntryS.l k rest p5n = some (n2, b9) from hl); clear hl HA
   have hlen : (done ++ x :: rest).length = l0.length := by have := hrl.out; simp at this; rw [List.length_append, List.length_cons]; omega
   obtain ⟨g, cap, eA, gb, -, -⟩ := Kd.S_form HO.out (by omega); injection eA with eA1 eA2 eA3; subst eA1; subst eA3; have b4 := zA (show x5 = (done.length : Int) by omega); have HDL := zA hdl; have HGG := zA hg; have GB := zA gb; clear eA2 hlen b7 hdl hg gb; have h0b := eq_true h0z; have hltb := eq_true hltz
   go_wp2_with (first
    | ((with_reducible refine gate_callee (f := 57) rfl ?_); refine goesL_ (some 15) rfl rfl Try.func57 (by kernel_rfl) rfl #[.int .i64 x1] rfl (by (try simp only [List.map_toArray, List.map_cons, List.map_nil]); first | done | rfl) ?_; (with_reducible refine (laws_markText.calls k x1 t0 _ A_t0.out).mono ?_); rintro e b5 ⟨rfl, hb⟩; refine ⟨_, rfl, ?_⟩; have a0 := zA (Kd.S_below (by (with_reducible repeat (first | apply Kd.S_alloc | apply Kd.S_drewN | apply Kd.S_drew)); exact HO.out) hb); have a7 := zA (Kept.below (by (repeat (first | (with_reducible first | exact HK.out | apply Kept.alloc | apply Kept.drewN | apply Kept.drew) | exact HK.out))) hb); have a8 := zA (below_step (by (repeat (first | (with_reducible first | exact HB.out | apply below_alloc | apply pw_below_drewN | apply below_drew1) | exact HB.out))) hb); clear HO HK HB A_t0; have HO := a0; have HK := a7; have HB := a8; clear a0 a7 a8 hb; obtain ⟨oki, ce, hcl, hM, hcc, hfr, hoki, hH⟩ := Kd.S_elem HO.out z44 x5 h0z hltz; rw [Deep.get_next b4.out] at hM; obtain ⟨v4, v5, rfl, g4, g5⟩ := k44_openM hM; obtain ⟨A4, c4, rfl⟩ := Kd.R_slice g4; obtain ⟨A5, c5, rfl⟩ := Kd.R_slice g5; have H4 := zA g4; have H5 := zA g5; have HH := zA hH; have HOK := zA hoki; clear HO hM hcl hcc hfr g4 g5 hH hoki; obtain ⟨hcc, hfr⟩ := Deep.H_cells HH.out h0z hltz; have hx_ : b5.cell? ⟨g, x5.toNat * 6, none⟩ = some (.string x.f0) := hcc 0 _ rfl; have hf_ : b5.frozen? ⟨g, x5.toNat * 6, none⟩ = false := hfr 0; clear hcc hfr)
    | ((with_reducible refine gate_store (t := 9) (p := 17) rfl ?_); refine store_event (t := 9) (p := 17) (v := ?voy2_) (w1 := (b5.setCell ⟨g, x5.toNat * 6, none⟩ (.string t0))) ?hg ?ho ?hn ?hr ?_; (case ho => rfl); (case hg => rfl); (case hn => rfl); (case hr => first | (go_simp; done) | (go_simp; rfl)); intro b0 hw; have hp := Deep.H_put HH.out h0z hltz 0 (by decide) rfl rfl (u := .string t0) hw; clear hx_ hf_; have a0 := zA hp.1; have a3 := zA (Kd.R_grown H4.out hp.2 (fun k_ hk e_ => (HOK.out k_ hk).2 (Option.some.inj e_))); have a4 := zA (Kd.R_grown H5.out hp.2 (fun k_ hk e_ => (HOK.out k_ hk).2 (Option.some.inj e_))); have a2 := zA (Kept.of_grown (S := a6) hp.2 HK.out (fun k_ e_ => .inl (Option.some.inj e_ ▸ (Deep.H_own HH.out).1))); have a5 := zA (show Below w0.heap.size w0 b0 from by rw [hw]; exact below_set HB.out GB.out); clear HH H4 H5 HK HB hp hw; have HH := a0; have HK := a2; have HB := a5; clear a0 a2 a5; have H4 := a3; clear a3; have H5 := a4; clear a4; obtain ⟨hcc, hfr⟩ := Deep.H_cells HH.out h0z hltz; have hx_ : b0.cell? ⟨g, x5.toNat * 6 + 1, none⟩ = some (.int .i64 x.f1.f0) := hcc 1 _ rfl; have hf_ : b0.frozen? ⟨g, x5.toNat * 6 + 1, none⟩ = false := hfr 1; clear hcc hfr)
    | ((with_reducible refine gate_store (t := 3) (p := 25) rfl ?_); refine store_event (t := 3) (p := 25) (v := ?voy3_) (w1 := (b0.setCell ⟨g, x5.toNat * 6 + 1, none⟩ (.int .i64 (wrap64 (x1 + 1))))) ?hg ?ho ?hn ?hr ?_; (case ho => rfl); (case hg => rfl); (case hn => rfl); (case hr => first | (go_simp; done) | (go_simp; rfl)); intro b1 hw; have hp := Deep.H_put HH.out h0z hltz 1 (by decide) rfl rfl (u := .int .i64 (wrap64 (x1 + 1))) hw; clear hx_ hf_; have a0 := zA hp.1; have a3 := zA (Kd.R_grown H4.out hp.2 (fun k_ hk e_ => (HOK.out k_ hk).2 (Option.some.inj e_))); have a4 := zA (Kd.R_grown H5.out hp.2 (fun k_ hk e_ => (HOK.out k_ hk).2 (Option.some.inj e_))); have a2 := zA (Kept.of_grown (S := a6) hp.2 HK.out (fun k_ e_ => .inl (Option.some.inj e_ ▸ (Deep.H_own HH.out).1))); have a5 := zA (show Below w0.heap.size w0 b1 from by rw [hw]; exact below_set HB.out GB.out); clear HH H4 H5 HK HB hp hw; have HH := a0; have HK := a2; have HB := a5; clear a0 a2 a5; have H4 := a3; clear a3; have H5 := a4; clear a4; obtain ⟨hcc, hfr⟩ := Deep.H_cells HH.out h0z hltz; have hx_ : b1.cell? ⟨g, x5.toNat * 6 + 1 + 1, none⟩ = some (.int .i64 x.f1.f1) := hcc 2 _ rfl; have hf_ : b1.frozen? ⟨g, x5.toNat * 6 + 1 + 1, none⟩ = false := hfr 2; clear hcc hfr)
    | ((with_reducible refine gate_store (t := 3) (p := 33) rfl ?_); refine store_event (t := 3) (p := 33) (v := ?voy4_) (w1 := (b1.setCell ⟨g, x5.toNat * 6 + 1 + 1, none⟩ (.int .i64 (wrap64 ((wrap64 (x1 + 1)) + 1))))) ?hg ?ho ?hn ?hr ?_; (case ho => rfl); (case hg => rfl); (case hn => rfl); (case hr => first | (go_simp; done) | (go_simp; rfl)); intro b2 hw; have hp := Deep.H_put HH.out h0z hltz 2 (by decide) rfl rfl (u := .int .i64 (wrap64 ((wrap64 (x1 + 1)) + 1))) hw; clear hx_ hf_; have a0 := zA hp.1; have a3 := zA (Kd.R_grown H4.out hp.2 (fun k_ hk e_ => (HOK.out k_ hk).2 (Option.some.inj e_))); have a4 := zA (Kd.R_grown H5.out hp.2 (fun k_ hk e_ => (HOK.out k_ hk).2 (Option.some.inj e_))); have a2 := zA (Kept.of_grown (S := a6) hp.2 HK.out (fun k_ e_ => .inl (Option.some.inj e_ ▸ (Deep.H_own HH.out).1))); have a5 := zA (show Below w0.heap.size w0 b2 from by rw [hw]; exact below_set HB.out GB.out); clear HH H4 H5 HK HB hp hw; have HH := a0; have HK := a2; have HB := a5; clear a0 a2 a5; have H4 := a3; clear a3; have H5 := a4; clear a4; obtain ⟨hcc, hfr⟩ := Deep.H_cells HH.out h0z hltz; have hx_ : b2.cell? ⟨g, x5.toNat * 6 + 1 + 2, none⟩ = some (.int .i64 x.f1.f2) := hcc 3 _ rfl; have hf_ : b2.frozen? ⟨g, x5.toNat * 6 + 1 + 2, none⟩ = false := hfr 3; clear hcc hfr)
    | ((with_reducible refine gate_store (t := 3) (p := 41) rfl ?_); refine store_event (t := 3) (p := 41) (v := ?voy5_) (w1 := (b2.setCell ⟨g, x5.toNat * 6 + 1 + 2, none⟩ (.int .i64 (wrap64 ((wrap64 ((wrap64 (x1 + 1)) + 1)) + 1))))) ?hg ?ho ?hn ?hr ?_; (case ho => rfl); (case hg => rfl); (case hn => rfl); (case hr => first | (go_simp; done) | (go_simp; rfl)); intro b6 hw; have hp := Deep.H_put HH.out h0z hltz 3 (by decide) rfl rfl (u := .int .i64 (wrap64 ((wrap64 ((wrap64 (x1 + 1)) + 1)) + 1))) hw; clear hx_ hf_; have a0 := zA hp.1; have a3 := zA (Kd.R_grown H4.out hp.2 (fun k_ hk e_ => (HOK.out k_ hk).2 (Option.some.inj e_))); have a4 := zA (Kd.R_grown H5.out hp.2 (fun k_ hk e_ => (HOK.out k_ hk).2 (Option.some.inj e_))); have a2 := zA (Kept.of_grown (S := a6) hp.2 HK.out (fun k_ e_ => .inl (Option.some.inj e_ ▸ (Deep.H_own HH.out).1))); have a5 := zA (show Below w0.heap.size w0 b6 from by rw [hw]; exact below_set HB.out GB.out); clear HH H4 H5 HK HB hp hw; have HH := a0; have HK := a2; have HB := a5; clear a0 a2 a5; have H4 := a3; clear a3; have H5 := a4; clear a4; obtain ⟨hcc, hfr⟩ := Deep.H_cells HH.out h0z hltz; have hx_ : b6.cell? ⟨g, x5.toNat * 6 + 1 + 3, none⟩ = some (.slice A4 x.f1.f3.length c4) := hcc 4 _ rfl; have hf_ : b6.frozen? ⟨g, x5.toNat * 6 + 1 + 3, none⟩ = false := hfr 4; clear hcc hfr)
    | ((with_reducible refine gate_callee (f := 47) rfl ?_); refine goesL_ (some 51) rfl rfl Try.func47 (by kernel_rfl) rfl #[.slice A4 x.f1.f3.length c4, .int .i64 (wrap64 ((wrap64 ((wrap64 ((wrap64 (x1 + 1)) + 1)) + 1)) + 1))] rfl (by (try simp only [List.map_toArray, List.map_cons, List.map_nil]); first | done | rfl) ?_; (with_reducible refine (laws_markStringS.calls k (fun k_ => some k_ = (.slice A4 x.f1.f3.length c4 : Value).ownBlock) (.slice A4 x.f1.f3.length c4) _ (wrap64 ((wrap64 ((wrap64 ((wrap64 (x1 + 1)) + 1)) + 1)) + 1)) p4n p4l w0 _ (by (repeat (first | (with_reducible first | exact HB.out | apply below_alloc | apply pw_below_drewN | apply below_drew1) | exact HB.out))) (Deep.R_flat rfl H4.out) A_p4.out).mono ?_); rintro e c0 ⟨rfl, ho, hb, hkp⟩; refine ⟨_, rfl, ?_⟩; have hsub : ∀ k_, some k_ = (.slice A4 x.f1.f3.length c4 : Value).ownBlock → oki k_ := fun k_ hk => H4.out.1 k_ hk.symm; have a0 := zA (Deep.H_call HH.out hkp hsub); have a7 := zA (Deep.R_back (Q := oki) rfl ho (fun k_ hk => hsub k_ hk.symm)); have a8 := zA (Kept.then_ HK.out hkp (fun k_ hk => .inl (HOK.out k_ (hsub k_ hk)).1)); have a2 := zA hb; have a4 := zA (Deep.R_oth rfl H5.out hkp (Deep.R_two H4.out H5.out (by decide))); clear HH H4 HK HB ho hb hkp hsub hx_ hf_ H5; have HH := a0; have H4 := a7; have HK := a8; have HB := a2; clear a0 a7 a8 a2; have H5 := a4; clear a4; obtain ⟨hcc, hfr⟩ := Deep.H_cells HH.out h0z hltz; have hx_ : c0.cell? ⟨g, x5.toNat * 6 + 5, none⟩ = some (.slice A5 x.f2.length c5) := hcc 5 _ rfl; have hf_ : c0.frozen? ⟨g, x5.toNat * 6 + 5, none⟩ = false := hfr 5; clear hcc hfr)
    | ((with_reducible refine gate_callee (f := 58) rfl ?_); refine goesL_ (some 58) rfl rfl Try.func58 (by kernel_rfl) rfl #[.slice A5 x.f2.length c5, .int .i64 p4n] rfl (by (try simp only [List.map_toArray, List.map_cons, List.map_nil]); first | done | rfl) ?_; (with_reducible refine (laws_markNeedS.calls k (fun k_ => some k_ = (.slice A5 x.f2.length c5 : Value).ownBlock) (.slice A5 x.f2.length c5) _ p4n p5n p5l w0 _ (by (repeat (first | (with_reducible first | exact HB.out | apply below_alloc | apply pw_below_drewN | apply below_drew1) | exact HB.out))) (Deep.R_flat rfl H5.out) A_p5.out).mono ?_); rintro e c2 ⟨rfl, ho, hb, hkp⟩; refine ⟨_, rfl, ?_⟩; have hsub : ∀ k_, some k_ = (.slice A5 x.f2.length c5 : Value).ownBlock → oki k_ := fun k_ hk => H5.out.1 k_ hk.symm; have a0 := zA (Deep.H_call HH.out hkp hsub); have a7 := zA (Deep.R_back (Q := oki) rfl ho (fun k_ hk => hsub k_ hk.symm)); have a8 := zA (Kept.then_ HK.out hkp (fun k_ hk => .inl (HOK.out k_ (hsub k_ hk)).1)); have a2 := zA hb; have a3 := zA (Deep.R_oth rfl H4.out hkp (Deep.R_two H5.out H4.out (by decide))); clear HH H5 HK HB ho hb hkp hsub hx_ hf_ H4; have HH := a0; have H5 := a7; have HK := a8; have HB := a2; clear a0 a7 a8 a2; have H4 := a3; clear a3; skip))
   have hS := Kd.H_back HH.out (x' := (⟨t0, ⟨(wrap64 (x1 + 1)), (wrap64 ((wrap64 (x1 + 1)) + 1)), (wrap64 ((wrap64 ((wrap64 (x1 + 1)) + 1)) + 1)), p4l⟩, p5l⟩ : S44)) (k44_mkM _ _ _ _ H4.out H5.out) (fun _ hk => hk); rw [Deep.set_next b4.out] at hS; have HS := zA hS; clear hS
   go_roundg (l0.length - (kk + 1))
   case measure => have := HGG.out; have := hrl.out; rw [List.length_cons] at this; omega
   case rel => exact ⟨kk + 1, _, wrap64 (x5 + 1), done ++ [_], rest, b9, rfl, rfl, by have := b4.out; have := HDL.out; have := HMAX.out; unfold wrap64; omega, Nat.le_refl _, by rw [List.length_append, HDL.out]; rfl, ⟨by have := hrl.out; rw [List.length_cons] at this; omega⟩, AL, ⟨by rw [b8.out, List.append_assoc]; rfl⟩, HS, HK, HB⟩
/-! ### laws_markVer: function 24 -/
def laws_markVer.f (k : Nat) (a3 a4 a5 : Int) (a2 : List ByteArray) (a1 : Int) : Option (Int × List ByteArray) := (laws_markStringS.f k a2 a1).bind fun a0 => (some (a0.1, a0.2))
theorem laws_markVer.calls (k : Nat) (a8 a9 b0 : Int) (a2 : Nat → Prop) (a4 : Value) (a3 : List ByteArray) (a1 r1 : Int) (r2 : List ByteArray) (w0 w : World) (hB : Below w0.heap.size w0 w) (b5 : Kd.R Kd.string 9 w w0.heap.size a2 a4 a3) (h : laws_markVer.f k a8 a9 b0 a3 a1 = some (r1, r2)) :
  Calls Try.prog 24 #[.agg #[.int .i64 a8, .int .i64 a9, .int .i64 b0, a4], .int .i64 a1] w fun e w' => e = .returned (.int .i64 r1) ∧ Kd.R Kd.string 9 w' w0.heap.size (fun k_ => (a2 k_ ∨ w.heap.size ≤ k_)) a4 r2 ∧ Below w0.heap.size w0 w' ∧ Kept w w' (fun k_ => a2 k_) := by
 have c0 := Try.underlying41
 have a0 := zA (show Kd.R Kd.string 9 w w0.heap.size (fun k_ => (a2 k_ ∨ w.heap.size ≤ k_)) a4 a3 from Kd.R_mono b5 (fun k_ hk => (.inl hk)))
 have HK := zA (Kept.refl w (fun k_ => a2 k_))
 have c1 := zA hB.size
 have HB := zA hB
 clear hB
 unfold laws_markVer.f at h
 have H := h
 clear h
 replace H := Option.bind_eq_some_iff.mp H
 obtain ⟨⟨b6, b7⟩, b1, H⟩ := H
 try dsimp only at H
 have A3 := zA b1
 clear b1
 simp only [zU] at H
 obtain ⟨rfl, rfl⟩ := H
 obtain ⟨a5, a6, b8⟩ := Kd.R_slice a0.out
 subst b8
 go_enter Try.func24, Try.ntmps24
 go_wp2_with (first | ((with_reducible refine zd 2 ?_); refine ze 2 41 #[.int .i64 a8, .int .i64 a9, .int .i64 b0, .slice a5 a3.length a6] ?_; intro b2 hg w5 hbox hb; replace a0 := zr a0 hb; have a7 := zA (hbox); have b3 := zA ((by rw [hg]; exact (by first | exact HK.out.1 | exact (show Kept w _ (fun k_ => a2 k_) from by repeat (first | (with_reducible first | exact HK.out | apply Kept.alloc | apply Kept.drewN | apply Kept.drew) | exact HK.out)).1) : w.heap.size ≤ b2)); replace HK := zA (Kept.below (S := (fun k_ => a2 k_)) (by repeat (first | (with_reducible first | exact HK.out | apply Kept.alloc | apply Kept.drewN | apply Kept.drew) | exact HK.out)) hb); have b9 := zA ((zG hg : w0.heap.size ≤ b2)); replace HB := zA (below_step (zB) hb); clear hb hbox hg; obtain ⟨c2, c3, c4, c5, c6, c7, c8, c9⟩ := ze4 a7.out) | ((with_reducible refine zq 47 ?_); refine zg (some 8) Try.func47 #[.slice a5 a3.length a6, .int .i64 a1] ?_; (with_reducible refine (laws_markStringS.calls k (fun k_ => some k_ = (.slice a5 a3.length a6 : Value).ownBlock) (.slice a5 a3.length a6) a3 a1 b6 b7 w0 _ ?s1 ?s2 A3.out).mono ?_); (case s1 => repeat (first | (with_reducible first | exact HB.out | apply below_alloc | apply pw_below_drewN | apply below_drew1 | refine below_set ?_ b9.out) | exact HB.out)); (case s2 => exact Kd.R_tight rfl a0.out); rintro e w7 ⟨rfl, b4, hb, hkp⟩; refine ⟨_, rfl, ?_⟩; replace a7 := zA (blk_kept (zK a7.out) hkp (fun hs_ => (fun e_ => (Kd.R_ne a0.out a7.out (by decide)) e_) hs_)); replace HK := zA (Kept.then_ (S := (fun k_ => a2 k_)) (by repeat (first | (with_reducible first | exact HK.out | apply Kept.alloc | apply Kept.drewN | apply Kept.drew | refine Kept.setCell ?_ (.inr b3.out) _) | exact HK.out)) hkp (fun k_ hs_ => (fun e_ => (a0.out.1 k_ e_.symm)) hs_)); replace a0 := zA (Kd.R_reok rfl b4 (fun k_ e_ => a0.out.1 k_ e_)); replace HB := zA (hb); (try clear hb); (try clear hkp); (try clear b4)))
 go_ret
 exact ⟨zE, zR a0.out, zW HB.out, by repeat (first | (with_reducible first | exact HK.out | apply Kept.alloc | apply Kept.drewN | apply Kept.drew | refine Kept.setCell ?_ (.inr b3.out) _) | exact HK.out)⟩
/-! ### laws_markEntry: function 25 -/
def laws_markEntry.f (k : Nat) (a8 : ByteArray) (a3 a4 a5 : Int) (a6 : List ByteArray) (a7 : List (S94)) (a1 : Int) : Option (Int × List ByteArray × (List (S94))) := (laws_markVer.f k a3 a4 a5 a6 a1).bind fun a0 => ((laws_markNeedS.f k a7 a0.1).bind fun a2 => (some (a2.1, a0.2, a2.2)))
theorem laws_markEntry.calls (k : Nat) (b8 : ByteArray) (a8 a9 b0 : Int) (a0 : Nat → Prop) (b2 : Value) (a5 : List ByteArray) (a2 : Nat → Prop) (b3 : Value) (a6 : List (S94)) (a1 r1 : Int) (r2 : List ByteArray) (r3 : List (S94)) (w0 w : World) (hB : Below w0.heap.size w0 w) (c5 : Kd.R Kd.string 9 w w0.heap.size a0 b2 a5) (c6 : Kd.R k94 94 w w0.heap.size a2 b3 a6) (h : laws_markEntry.f k b8 a8 a9 b0 a5 a6 a1 = some (r1, r2, r3)) :
  Calls Try.prog 25 #[.agg #[.string b8, .int .i64 a8, .int .i64 a9, .int .i64 b0, b2, b3], .int .i64 a1] w fun e w' => e = .returned (.int .i64 r1) ∧ Kd.R Kd.string 9 w' w0.heap.size (fun k_ => ((a0 k_ ∨ a2 k_) ∨ w.heap.size ≤ k_)) b2 r2 ∧ Kd.R k94 94 w' w0.heap.size (fun k_ => ((a0 k_ ∨ a2 k_) ∨ w.heap.size ≤ k_)) b3 r3 ∧ Below w0.heap.size w0 w' ∧ Kept w w' (fun k_ => a0 k_ ∨ a2 k_) := by
 have d2 := Try.underlying44
 have d3 := Try.underlying41
 have a3 := zA (show Kd.R Kd.string 9 w w0.heap.size (fun k_ => ((a0 k_ ∨ a2 k_) ∨ w.heap.size ≤ k_)) b2 a5 from Kd.R_mono c5 (fun k_ hk => (.inl (.inl hk))))
 have a4 := zA (show Kd.R k94 94 w w0.heap.size (fun k_ => ((a0 k_ ∨ a2 k_) ∨ w.heap.size ≤ k_)) b3 a6 from Kd.R_mono c6 (fun k_ hk => (.inl (.inr hk))))
 have HK := zA (Kept.refl w (fun k_ => a0 k_ ∨ a2 k_))
 have d4 := zA hB.size
 have HB := zA hB
 clear hB
 unfold laws_markEntry.f at h
 have H := h
 clear h
 replace H := Option.bind_eq_some_iff.mp H
 obtain ⟨⟨b9, c7⟩, c1, H⟩ := H
 try dsimp only at H
 have A3 := zA c1
 clear c1
 replace H := Option.bind_eq_some_iff.mp H
 obtain ⟨⟨c8, c9⟩, c2, H⟩ := H
 try dsimp only at H
 have A4 := zA c2
 clear c2
 simp only [zU] at H
 obtain ⟨rfl, rfl, rfl⟩ := H
 obtain ⟨b4, b5, d0⟩ := Kd.R_slice a3.out
 subst d0
 obtain ⟨b6, b7, d1⟩ := Kd.R_slice a4.out
 subst d1
 go_enter Try.func25, Try.ntmps25
 go_wp2_with (first | ((with_reducible refine zd 2 ?_); refine ze 2 44 #[.string b8, .int .i64 a8, .int .i64 a9, .int .i64 b0, .slice b4 a5.length b5, .slice b6 a6.length b7] ?_; intro c3 hg w7 hbox hb; replace a3 := zr a3 hb; replace a4 := zr a4 hb; have a7 := zA (hbox); have c0 := zA ((by rw [hg]; exact (by first | exact HK.out.1 | exact (show Kept w _ (fun k_ => a0 k_ ∨ a2 k_) from by repeat (first | (with_reducible first | exact HK.out | apply Kept.alloc | apply Kept.drewN | apply Kept.drew) | exact HK.out)).1) : w.heap.size ≤ c3)); replace HK := zA (Kept.below (S := (fun k_ => a0 k_ ∨ a2 k_)) (by repeat (first | (with_reducible first | exact HK.out | apply Kept.alloc | apply Kept.drewN | apply Kept.drew) | exact HK.out)) hb); have c4 := zA ((zG hg : w0.heap.size ≤ c3)); replace HB := zA (below_step (zB) hb); clear hb hbox hg; obtain ⟨d5, d6, d7, d8, d9, e0, e1, e2, e3, e4, e5, e6⟩ := ze6 a7.out) | ((with_reducible refine zq 24 ?_); refine zg (some 8) Try.func24 #[.agg #[.int .i64 a8, .int .i64 a9, .int .i64 b0, .slice b4 a5.length b5], .int .i64 a1] ?_; (with_reducible refine (laws_markVer.calls k a8 a9 b0 (fun k_ => some k_ = (.slice b4 a5.length b5 : Value).ownBlock) (.slice b4 a5.length b5) a5 a1 b9 c7 w0 _ ?s1 ?s2 A3.out).mono ?_); (case s1 => repeat (first | (with_reducible first | exact HB.out | apply below_alloc | apply pw_below_drewN | apply below_drew1 | refine below_set ?_ c4.out) | exact HB.out)); (case s2 => exact Kd.R_tight rfl a3.out); rintro e w9 ⟨rfl, b1, hb, hkp⟩; refine ⟨_, rfl, ?_⟩; replace a4 := zA (Kd.R_mono (ok' := fun k_ => ((a0 k_ ∨ a2 k_) ∨ w.heap.size ≤ k_)) (Kd.R_keptB ((Kd.R_apart' a4.out (Kd.R_typed a3.out) (by decide))) hkp (fun k_ hk_ hs_ => (hk_.2) hs_)) (fun k_ hk_ => hk_.1.1)); replace a7 := zA (blk_kept (zK a7.out) hkp (fun hs_ => (fun e_ => (Kd.R_ne a3.out a7.out (by decide)) e_) hs_)); replace HK := zA (Kept.then_ (S := (fun k_ => a0 k_ ∨ a2 k_)) (by repeat (first | (with_reducible first | exact HK.out | apply Kept.alloc | apply Kept.drewN | apply Kept.drew | refine Kept.setCell ?_ (.inr c0.out) _) | exact HK.out)) hkp (fun k_ hs_ => (fun e_ => (a3.out.1 k_ e_.symm)) hs_)); replace a3 := zA (Kd.R_reok rfl b1 (fun k_ e_ => a3.out.1 k_ e_)); replace HB := zA (hb); (try clear hb); (try clear hkp); (try clear b1); obtain ⟨e7, e8, e9, f0, f1, f2, f3, f4, f5, f6, f7, f8⟩ := ze6 a7.out) | ((with_reducible refine zq 58 ?_); refine zg (some 12) Try.func58 #[.slice b6 a6.length b7, .int .i64 b9] ?_; (with_reducible refine (laws_markNeedS.calls k (fun k_ => some k_ = (.slice b6 a6.length b7 : Value).ownBlock) (.slice b6 a6.length b7) a6 b9 c8 c9 w0 _ ?s1 ?s2 A4.out).mono ?_); (case s1 => repeat (first | (with_reducible first | exact HB.out | apply below_alloc | apply pw_below_drewN | apply below_drew1 | refine below_set ?_ c4.out) | exact HB.out)); (case s2 => exact Kd.R_tight rfl a4.out); rintro e f9 ⟨rfl, b1, hb, hkp⟩; refine ⟨_, rfl, ?_⟩; replace a3 := zA (Kd.R_mono (ok' := fun k_ => ((a0 k_ ∨ a2 k_) ∨ w.heap.size ≤ k_)) (Kd.R_keptB ((Kd.R_apart' a3.out (Kd.R_typed a4.out) (by decide))) hkp (fun k_ hk_ hs_ => (hk_.2) hs_)) (fun k_ hk_ => hk_.1.1)); replace a7 := zA (blk_kept (zK a7.out) hkp (fun hs_ => (fun e_ => (Kd.R_ne a4.out a7.out (by decide)) e_) hs_)); replace HK := zA (Kept.then_ (S := (fun k_ => a0 k_ ∨ a2 k_)) (by repeat (first | (with_reducible first | exact HK.out | apply Kept.alloc | apply Kept.drewN | apply Kept.drew | refine Kept.setCell ?_ (.inr c0.out) _) | exact HK.out)) hkp (fun k_ hs_ => (fun e_ => (a4.out.1 k_ e_.symm)) hs_)); replace a4 := zA (Kd.R_reok rfl b1 (fun k_ e_ => a4.out.1 k_ e_)); replace HB := zA (hb); (try clear hb); (try clear hkp); (try clear b1)))
 go_ret
 exact ⟨zE, zR a3.out, zR a4.out, zW HB.out, by repeat (first | (with_reducible first | exact HK.out | apply Kept.alloc | apply Kept.drewN | apply Kept.drew | refine Kept.setCell ?_ (.inr c0.out) _) | exact HK.out)⟩
/-! ### laws_heldStringS: function 49 -/
def laws_heldStringS.l0 : Nat → List ByteArray → Int → Int → Option (Int)
 | 0, _, _, _ => none
 | k + 1, x0, x1, x5 => if x5 < (x0.length : Int) then (if 0 ≤ x5 then ((laws_markText.f k x1).bind fun a0 => (if (rdOf ByteArray.empty x0 x5).toList = a0.toList then (laws_heldStringS.l0 k x0 (wrap64 (x1 + 1)) (wrap64 (x5 + 1))) else (some (-1)))) else (none)) else (some x1)
def laws_heldStringS.f (k : Nat) (l0 : List ByteArray) (a1 : Int) : Option (Int) := laws_heldStringS.l0 k l0 a1 0
theorem laws_heldStringS.calls (k : Nat) (A0 : Option Addr) (c0 : Nat) (l0 : List ByteArray) (a1 r : Int) (w : World) (a9 : Kd.C Kd.string w A0 l0.length l0) (b0 : l0.length ≤ c0) (h : laws_heldStringS.f k l0 a1 = some r) :
  Calls Try.prog 49 #[.slice A0 l0.length c0, .int .i64 a1] w fun e w' => e = .returned (.int .i64 r) ∧ Below w.heap.size w w' := by
 have b1 := zA a9
 have b8 := zA b0
 clear a9 b0
 have HB := zA (Below.refl w.heap.size w)
 unfold laws_heldStringS.f at h
 have H := h
 clear h
 have H' := zA H
 clear H
 go_enter Try.func49, Try.ntmps49
 go_wp2
 go_loopg [1, 5] k (fun kq v1 v5 w' => ∃ (a4 : Int) (a0 : Int), v1 = .int .i64 a4 ∧ v5 = .int .i64 a0 ∧ Aside0 (laws_heldStringS.l0 kq l0 a4 a0 = some r) ∧ Aside0 (kq ≤ k) ∧ Aside0 (Below w.heap.size w w'))
 case atStart => exact ⟨(a1), (0), zS, zS, H', ⟨Nat.le_refl _⟩, ⟨zB⟩⟩
 case round =>
  clear H'
  try clear p2
  obtain ⟨a4, a0, rfl, rfl, HA, b2, HB⟩ := hrel
  cases gk with
  | zero => exact absurd HA.out (by simp [laws_heldStringS.l0])
  | succ k1 =>
   have H := HA.out; clear HA; simp only [laws_heldStringS.l0] at H; replace H := zI0 H
   rcases H with ⟨b5, H⟩ | ⟨b5, H⟩
   ·replace H := zD0 H; obtain ⟨b9, H⟩ := H; replace H := Option.bind_eq_some_iff.mp H; obtain ⟨b3, b4, H⟩ := H
    try dsimp only at H
    have A5 := zA b4; clear b4; replace H := zI1 H
    rcases H with ⟨c6, H⟩ | ⟨c6, H⟩
    ·have b6 := beq_iff_eq.mpr c6; have b7 := bne_eq_false_iff_eq.mpr c6; clear c6; have H' := zA H; clear H
     try go_wp2
     replace HB := zA (below_drew1 HB.out); have a5 : 0 ≤ (a0 : Int) := zD; have a6 : a0 < (l0.length : Int) := zD; obtain ⟨a7, a8, a2⟩ := Kd.at_string b1.out a0 a5 a6; have a3 := a2; cases a8; replace a2 := zx HB a2; replace a5 := eq_true a5; replace a6 := eq_true a6
     refine start_ (n := 7) (S := fun w' => w'.cell? (a7.add (a0).toNat) = some (.string (rdOf ByteArray.empty l0 a0))) (ds := []) (Array.replicate 7 false) (by kernel_rfl) rfl rfl (((HB.out.cell (World.block_lt_of_cell? w _ a3)).trans a3)) (fun hHeld => ?_)
     generalize wr.drew = w7 at HB a2 hHeld ⊢; refine zp 0 12 ?_; refine zp 1 13 ?_; refine zp 2 14 ?_; refine zp 4 16 ?_
     refine take_ (i := 3) (N := some 15) (v := ?_) (a' := ?_) #[true, true, true, true, true, false, false] rfl rfl (by kernel_rfl) (fun _ _ _ h => h) (Or.inl ⟨by rfl, ?_⟩) hHeld ?_ ?_
     rotate_left
     ·intro w' s0
      go_simp
      with_reducible rfl
     rotate_left
     ·simp only [Act.put, zT, i64_w, i32_w]
      rfl
     refine zo 5 (some 17) fun K hK => ?_
     refine goes_ Try.func57 (by kernel_rfl) rfl #[.int .i64 a4] (by rfl) rfl rfl zM ?_
     with_reducible refine (laws_markText.calls k1 a4 b3 _ A5.out).mono ?_
     rintro e w8 ⟨rfl, hb⟩
     refine ⟨_, rfl, ?_⟩
     replace HB := zA (below_step (zB) hb)
     (try clear hb)
     refine hK.out _ _ (((HB.out.cell (World.block_lt_of_cell? w _ a3)).trans a3)) (fun hHeld => ?_)
     clear hK K; refine zn ?_; refine zp 6 18 ?_
     refine done_ (by kernel_rfl) ?_
     try go_wp2
     go_roundg k1
     case measure => have := b2.out; omega
     case rel => exact ⟨(wrap64 (a4 + 1)), (wrap64 (a0 + 1)), zS, zS, H', ⟨by have := b2.out; omega⟩, ⟨zB⟩⟩
    have b6 := beq_eq_false_iff_ne.mpr c6; have b7 := bne_iff_ne.mpr c6; obtain rfl := zm H
    try go_wp2
    replace HB := zA (below_drew1 HB.out); have a5 : 0 ≤ (a0 : Int) := zD; have a6 : a0 < (l0.length : Int) := zD; obtain ⟨a7, a8, a2⟩ := Kd.at_string b1.out a0 a5 a6; have a3 := a2; cases a8; replace a2 := zx HB a2; replace a5 := eq_true a5; replace a6 := eq_true a6
    refine start_ (n := 7) (S := fun w' => w'.cell? (a7.add (a0).toNat) = some (.string (rdOf ByteArray.empty l0 a0))) (ds := []) (Array.replicate 7 false) (by kernel_rfl) rfl rfl (((HB.out.cell (World.block_lt_of_cell? w _ a3)).trans a3)) (fun hHeld => ?_)
    generalize wr.drew = w9 at HB a2 hHeld ⊢; refine zp 0 12 ?_; refine zp 1 13 ?_; refine zp 2 14 ?_; refine zp 4 16 ?_
    refine take_ (i := 3) (N := some 15) (v := ?_) (a' := ?_) #[true, true, true, true, true, false, false] rfl rfl (by kernel_rfl) (fun _ _ _ h => h) (Or.inl ⟨by rfl, ?_⟩) hHeld ?_ ?_
    rotate_left
    ·intro w' s0
     go_simp
     with_reducible rfl
    rotate_left
    ·simp only [Act.put, zT, i64_w, i32_w]
     rfl
    refine zo 5 (some 17) fun K hK => ?_
    refine goes_ Try.func57 (by kernel_rfl) rfl #[.int .i64 a4] (by rfl) rfl rfl zM ?_
    with_reducible refine (laws_markText.calls k1 a4 b3 _ A5.out).mono ?_
    rintro e c1 ⟨rfl, hb⟩
    refine ⟨_, rfl, ?_⟩
    replace HB := zA (below_step (zB) hb)
    (try clear hb)
    refine hK.out _ _ (((HB.out.cell (World.block_lt_of_cell? w _ a3)).trans a3)) (fun hHeld => ?_)
    clear hK K; refine zn ?_; refine zp 6 18 ?_
    refine done_ (by kernel_rfl) ?_
    try go_wp2
    go_ret
    exact ⟨zE, zB⟩
   obtain rfl := zm H
   go_wp2
   go_ret
   exact ⟨zE, zB⟩
/-! ### laws_heldVer: function 59 -/
def laws_heldVer.f (k : Nat) (a3 a4 a5 : Int) (a2 : List ByteArray) (a1 : Int) : Option (Int) := (laws_heldStringS.f k a2 a1).bind fun a0 => (if a0 < 0 then (some (-1)) else (some a0))
theorem laws_heldVer.calls (k : Nat) (a4 a5 a6 : Int) (a2 : Option Addr) (a3 : Nat) (a0 : List ByteArray) (a1 r : Int) (w : World) (a9 : Kd.C Kd.string w a2 a0.length a0) (b0 : a0.length ≤ a3) (h : laws_heldVer.f k a4 a5 a6 a0 a1 = some r) :
  Calls Try.prog 59 #[.agg #[.int .i64 a4, .int .i64 a5, .int .i64 a6, .slice a2 a0.length a3], .int .i64 a1] w fun e w' => e = .returned (.int .i64 r) ∧ Below w.heap.size w w' := by
 have b5 := Try.underlying41
 have b2 := zA a9
 have b3 := zA b0
 clear a9 b0
 have HB := zA (Below.refl w.heap.size w)
 unfold laws_heldVer.f at h
 have H := h
 clear h
 replace H := Option.bind_eq_some_iff.mp H
 obtain ⟨b4, b1, H⟩ := H
 try dsimp only at H
 have A3 := zA b1
 clear b1
 go_enter Try.func59, Try.ntmps59
 go_upto_if 10 with (first | ((with_reducible refine zd 2 ?_); refine ze 2 41 #[.int .i64 a4, .int .i64 a5, .int .i64 a6, .slice a2 a0.length a3] ?_; intro b6 hg w5 hbox hb; have a7 := zA (hbox); have b7 := zi HB hg; have b8 := zi HB hg; replace HB := zA (below_step (zB) hb); clear hb hbox hg; obtain ⟨b9, c0, c1, c2, c3, c4, c5, c6⟩ := ze4 a7.out) | ((with_reducible refine zq 49 ?_); refine zg (some 8) Try.func49 #[.slice a2 a0.length a3, .int .i64 a1] ?_; (with_reducible refine (laws_heldStringS.calls k _ _ a0 a1 b4 _ ?s1 ?s2 A3.out).mono ?_); (case s1 => exact zC (Kd.C_below b2.out HB.out)); (case s2 => exact b3.out); rintro e w7 ⟨rfl, hb⟩; refine ⟨_, rfl, ?_⟩; replace a7 := zb a7 hb; replace HB := zh HB hb; (try clear hb)))
 (try simp only [Act.put, zT])
 replace H := zI0 H
 rcases H with ⟨a8, H⟩ | ⟨a8, H⟩
 ·obtain rfl := zm H
  (try simp only [a8])
  go_wp2
  go_ret
  exact ⟨zE, zW HB.out⟩
 obtain rfl := zm H
 (try simp only [a8])
 go_wp2
 go_ret
 exact ⟨zE, zW HB.out⟩
/-! ### laws_heldNeedS: function 60 -/
mutual
def laws_heldNeedS.l0 : Nat → List (S94) → Int → Int → Option (Int)
 | 0, _, _, _ => none
 | k + 1, x0, x1, x5 => if x5 < (x0.length : Int) then (laws_heldNeedS.j1 k x0 x1 x5) else (some x1)
def laws_heldNeedS.j1 : Nat → List (S94) → Int → Int → Option (Int)
 | 0, _, _, _ => none
 | k + 1, x0, x1, x5 => if 0 ≤ x5 then (if x5 < (x0.length : Int) then ((laws_markText.f k x1).bind fun a0 => (if ((rd_T94 x0 x5).f0).toList = a0.toList then ((laws_markText.f k (wrap64 (x1 + 1))).bind fun a1 => (if ((rd_T94 x0 x5).f1).toList = a1.toList then (laws_heldNeedS.l0 k x0 (wrap64 ((wrap64 (x1 + 1)) + 1)) (wrap64 (x5 + 1))) else (some (-1)))) else (some (-1)))) else (none)) else (none)
end
def laws_heldNeedS.f (k : Nat) (l0 : List (S94)) (a1 : Int) : Option (Int) := laws_heldNeedS.l0 k l0 a1 0
def laws_heldNeedS.T4 : Bool × List (List Nat × List Nat) := (true, [([], []), ([], []), ([0, 1], [0, 1]), ([2], [2]), ([3], [3]), ([], []), ([5], [5]), ([4, 6], [4, 6])])
def laws_heldNeedS.B4 : List Nat := [0, 0, 3, 7, 15, 0, 32, 127]
theorem laws_heldNeedS.tab4 : rtab .any (opsOf Try.f60 4) = laws_heldNeedS.T4 := by kernel_rfl
theorem laws_heldNeedS.bits4 : waitsOk laws_heldNeedS.T4.2 laws_heldNeedS.B4 = true := by kernel_rfl
def laws_heldNeedS.T7 : Bool × List (List Nat × List Nat) := (true, [([], []), ([], []), ([0, 1], [0, 1]), ([2], [2]), ([3], [3]), ([], []), ([5], [5]), ([4, 6], [4, 6])])
def laws_heldNeedS.B7 : List Nat := [0, 0, 3, 7, 15, 0, 32, 127]
theorem laws_heldNeedS.tab7 : rtab .any (opsOf Try.f60 7) = laws_heldNeedS.T7 := by kernel_rfl
theorem laws_heldNeedS.bits7 : waitsOk laws_heldNeedS.T7.2 laws_heldNeedS.B7 = true := by kernel_rfl
theorem laws_heldNeedS.calls (k : Nat) (A0 : Option Addr) (c0 : Nat) (l0 : List (S94)) (a1 r : Int) (w : World) (c3 : Kd.C k94 w A0 l0.length l0) (c5 : l0.length ≤ c0) (h : laws_heldNeedS.f k l0 a1 = some r) :
  Calls Try.prog 60 #[.slice A0 l0.length c0, .int .i64 a1] w fun e w' => e = .returned (.int .i64 r) ∧ Below w.heap.size w w' := by
 have b5 := zA c3
 have e1 := zA c5
 clear c3 c5
 have HB := zA (Below.refl w.heap.size w)
 unfold laws_heldNeedS.f at h
 have H := h
 clear h
 have H' := zA H
 clear H
 go_enter Try.func60, Try.ntmps60
 go_wp2
 go_loopg [1, 5] k (fun kq v1 v5 w' => ∃ (a3 : Int) (a0 : Int), v1 = .int .i64 a3 ∧ v5 = .int .i64 a0 ∧ Aside0 (laws_heldNeedS.l0 kq l0 a3 a0 = some r) ∧ Aside0 (kq ≤ k) ∧ Aside0 (Below w.heap.size w w'))
 case atStart => exact ⟨(a1), (0), zS, zS, H', ⟨Nat.le_refl _⟩, ⟨zB⟩⟩
 case round =>
  clear H'
  try clear p2
  obtain ⟨a3, a0, rfl, rfl, HA, b7, HB⟩ := hrel
  cases gk with
  | zero => exact absurd HA.out (by simp [laws_heldNeedS.l0])
  | succ k1 =>
   have H := HA.out; clear HA; simp only [laws_heldNeedS.l0] at H; have b8 := zA H; clear H
   go_upto_if 9 with (fail)
   go_cut [] (fun wc => ∃ (kq : Nat), Aside0 (laws_heldNeedS.j1 kq l0 a3 a0 = some r) ∧ Aside0 (kq ≤ k1) ∧ Aside0 (Below w.heap.size w wc))
   case first =>
    have H := b8.out; clear b8; replace H := zI0 H
    rcases H with ⟨b2, H⟩ | ⟨b2, H⟩
    ·(first | rw [b2] | (simp only [i64_w, i32_w]; rw [b2]) | skip)
     have H' := zA H; clear H
     go_wp2
     go_meet
     case rel => exact ⟨_, (by first | exact H' | (subst_vars; exact H')), ⟨by have := b7.out; first | omega | exact Nat.le_refl _⟩, ⟨zB⟩⟩
    (first | rw [b2] | (simp only [i64_w, i32_w]; rw [b2]) | skip)
    obtain rfl := zm H
    go_wp2
    go_ret
    exact ⟨zE, zB⟩
   case rest =>
    clear b8
    try clear p2
    try clear c4
    try clear b2
    try clear p2
    obtain ⟨kq, HA, c6, HB⟩ := hcut
    cases kq with
    | zero => exact absurd HA.out (by simp [laws_heldNeedS.j1])
    | succ b3 =>
     have H := HA.out; clear HA; simp only [laws_heldNeedS.j1] at H; replace H := zD0 H; obtain ⟨e2, H⟩ := H; replace H := zD0 H; obtain ⟨e3, H⟩ := H; replace H := Option.bind_eq_some_iff.mp H; obtain ⟨b9, c7, H⟩ := H
     try dsimp only at H
     have A7 := zA c7; clear c7; replace H := zI1 H
     rcases H with ⟨c8, H⟩ | ⟨c8, H⟩
     ·have d3 := beq_iff_eq.mpr c8; have d4 := bne_eq_false_iff_eq.mpr c8; clear c8; replace H := Option.bind_eq_some_iff.mp H; obtain ⟨c9, d0, H⟩ := H
      try dsimp only at H
      have A9 := zA d0; clear d0; replace H := zI1 H
      rcases H with ⟨b4, H⟩ | ⟨b4, H⟩
      ·have d5 := beq_iff_eq.mpr b4; have d6 := bne_eq_false_iff_eq.mpr b4; clear b4; have H' := zA H; clear H
       try go_wp2
       replace HB := zA (below_drew1 HB.out); have a6 : 0 ≤ (a0 : Int) := zD; have a7 : a0 < (l0.length : Int) := zD; obtain ⟨a2, b6, a4, a5⟩ := at_T94 b5.out a0 a6 a7; have d1 := a5; have d2 := a4; cases b6; replace a4 := zx HB a4; replace a5 := zx HB a5; replace a6 := eq_true a6; replace a7 := eq_true a7
       refine start_ (n := 8) (S := fun w' => w'.cell? (a2.add ((a0).toNat * 2)) = some (.string ((rd_T94 l0 a0).f0)) ∧ w'.cell? ⟨(a2.add ((a0).toNat * 2)).block, (a2.add ((a0).toNat * 2)).off + 1, none⟩ = some (.string ((rd_T94 l0 a0).f1))) (ds := []) (Array.replicate 8 false) (by kernel_rfl) rfl rfl zO fun hHeld => ?_; refine with_tabW laws_heldNeedS.tab4 laws_heldNeedS.bits4 (fun HT_ HW_ => ?_)
       generalize wc.drew = e4 at HB a4 a5 hHeld ⊢; refine zp 0 12 ?_; refine zp 1 13 ?_; refine zp 2 14 ?_; refine zp 3 15 ?_; refine zp 5 17 ?_; refine zt 4 16 ?_
       refine zo 6 (some 18) fun K hK => ?_
       refine goes_ Try.func57 (by kernel_rfl) rfl #[.int .i64 a3] (by rfl) rfl rfl zM ?_
       with_reducible refine (laws_markText.calls b3 a3 b9 _ A7.out).mono ?_
       rintro e d7 ⟨rfl, hb⟩
       refine ⟨_, rfl, ?_⟩
       replace HB := zA (below_step (zB) hb)
       (try clear hb)
       refine hK.out _ _ zO fun hHeld => ?_
       clear hK K; refine zn ?_; refine zp 7 19 ?_
       refine done_ (done_of HT_.out (by kernel_rfl)) ?_
       try go_wp2
       replace HB := zA (below_drew1 HB.out); have b0 : 0 ≤ (a0 : Int) := zD; have b1 : a0 < (l0.length : Int) := zD; obtain ⟨c1, c2, a8, a9⟩ := at_T94 b5.out a0 b0 b1; have d8 := a9; have d9 := a8; obtain rfl : a2 = c1 := (by injection c2); replace a8 := zx HB a8; replace a9 := zx HB a9; replace b0 := eq_true b0; replace b1 := eq_true b1
       refine start_ (n := 8) (S := fun w' => w'.cell? (a2.add ((a0).toNat * 2)) = some (.string ((rd_T94 l0 a0).f0)) ∧ w'.cell? ⟨(a2.add ((a0).toNat * 2)).block, (a2.add ((a0).toNat * 2)).off + 1, none⟩ = some (.string ((rd_T94 l0 a0).f1))) (ds := []) (Array.replicate 8 false) (by kernel_rfl) rfl rfl zO fun hHeld => ?_; refine with_tabW laws_heldNeedS.tab7 laws_heldNeedS.bits7 (fun HT_ HW_ => ?_)
       generalize d7.drew = e5 at HB a8 a9 hHeld ⊢; refine zp 0 22 ?_; refine zp 1 23 ?_; refine zp 2 24 ?_; refine zp 3 25 ?_; refine zp 5 27 ?_; refine zt 4 26 ?_
       refine zo 6 (some 28) fun K hK => ?_
       refine goes_ Try.func57 (by kernel_rfl) rfl #[.int .i64 (wrap64 (a3 + 1))] (by rfl) rfl rfl zM ?_
       with_reducible refine (laws_markText.calls b3 (wrap64 (a3 + 1)) c9 _ A9.out).mono ?_
       rintro e e6 ⟨rfl, hb⟩
       refine ⟨_, rfl, ?_⟩
       replace HB := zA (below_step (zB) hb)
       (try clear hb)
       refine hK.out _ _ zO fun hHeld => ?_
       clear hK K; refine zn ?_; refine zp 7 29 ?_
       refine done_ (done_of HT_.out (by kernel_rfl)) ?_
       try go_wp2
       go_roundg b3
       case measure => have := b7.out; have := c6.out; omega
       case rel => exact ⟨(wrap64 ((wrap64 (a3 + 1)) + 1)), (wrap64 (a0 + 1)), zS, zS, H', ⟨by have := b7.out; have := c6.out; omega⟩, ⟨zB⟩⟩
      have d5 := beq_eq_false_iff_ne.mpr b4; have d6 := bne_iff_ne.mpr b4; obtain rfl := zm H
      try go_wp2
      replace HB := zA (below_drew1 HB.out); have a6 : 0 ≤ (a0 : Int) := zD; have a7 : a0 < (l0.length : Int) := zD; obtain ⟨a2, b6, a4, a5⟩ := at_T94 b5.out a0 a6 a7; have d1 := a5; have d2 := a4; cases b6; replace a4 := zx HB a4; replace a5 := zx HB a5; replace a6 := eq_true a6; replace a7 := eq_true a7
      refine start_ (n := 8) (S := fun w' => w'.cell? (a2.add ((a0).toNat * 2)) = some (.string ((rd_T94 l0 a0).f0)) ∧ w'.cell? ⟨(a2.add ((a0).toNat * 2)).block, (a2.add ((a0).toNat * 2)).off + 1, none⟩ = some (.string ((rd_T94 l0 a0).f1))) (ds := []) (Array.replicate 8 false) (by kernel_rfl) rfl rfl zO fun hHeld => ?_; refine with_tabW laws_heldNeedS.tab4 laws_heldNeedS.bits4 (fun HT_ HW_ => ?_)
      generalize wc.drew = e7 at HB a4 a5 hHeld ⊢; refine zp 0 12 ?_; refine zp 1 13 ?_; refine zp 2 14 ?_; refine zp 3 15 ?_; refine zp 5 17 ?_; refine zt 4 16 ?_
      refine zo 6 (some 18) fun K hK => ?_
      refine goes_ Try.func57 (by kernel_rfl) rfl #[.int .i64 a3] (by rfl) rfl rfl zM ?_
      with_reducible refine (laws_markText.calls b3 a3 b9 _ A7.out).mono ?_
      rintro e e0 ⟨rfl, hb⟩
      refine ⟨_, rfl, ?_⟩
      replace HB := zA (below_step (zB) hb)
      (try clear hb)
      refine hK.out _ _ zO fun hHeld => ?_
      clear hK K; refine zn ?_; refine zp 7 19 ?_
      refine done_ (done_of HT_.out (by kernel_rfl)) ?_
      try go_wp2
      replace HB := zA (below_drew1 HB.out); have b0 : 0 ≤ (a0 : Int) := zD; have b1 : a0 < (l0.length : Int) := zD; obtain ⟨c1, c2, a8, a9⟩ := at_T94 b5.out a0 b0 b1; have d8 := a9; have d9 := a8; obtain rfl : a2 = c1 := (by injection c2); replace a8 := zx HB a8; replace a9 := zx HB a9; replace b0 := eq_true b0; replace b1 := eq_true b1
      refine start_ (n := 8) (S := fun w' => w'.cell? (a2.add ((a0).toNat * 2)) = some (.string ((rd_T94 l0 a0).f0)) ∧ w'.cell? ⟨(a2.add ((a0).toNat * 2)).block, (a2.add ((a0).toNat * 2)).off + 1, none⟩ = some (.string ((rd_T94 l0 a0).f1))) (ds := []) (Array.replicate 8 false) (by kernel_rfl) rfl rfl zO fun hHeld => ?_; refine with_tabW laws_heldNeedS.tab7 laws_heldNeedS.bits7 (fun HT_ HW_ => ?_)
      generalize e0.drew = e8 at HB a8 a9 hHeld ⊢; refine zp 0 22 ?_; refine zp 1 23 ?_; refine zp 2 24 ?_; refine zp 3 25 ?_; refine zp 5 27 ?_; refine zt 4 26 ?_
      refine zo 6 (some 28) fun K hK => ?_
      refine goes_ Try.func57 (by kernel_rfl) rfl #[.int .i64 (wrap64 (a3 + 1))] (by rfl) rfl rfl zM ?_
      with_reducible refine (laws_markText.calls b3 (wrap64 (a3 + 1)) c9 _ A9.out).mono ?_
      rintro e e9 ⟨rfl, hb⟩
      refine ⟨_, rfl, ?_⟩
      replace HB := zA (below_step (zB) hb)
      (try clear hb)
      refine hK.out _ _ zO fun hHeld => ?_
      clear hK K; refine zn ?_; refine zp 7 29 ?_
      refine done_ (done_of HT_.out (by kernel_rfl)) ?_
      try go_wp2
      go_ret
      exact ⟨zE, zB⟩
     have d3 := beq_eq_false_iff_ne.mpr c8; have d4 := bne_iff_ne.mpr c8; obtain rfl := zm H
     try go_wp2
     replace HB := zA (below_drew1 HB.out); have a6 : 0 ≤ (a0 : Int) := zD; have a7 : a0 < (l0.length : Int) := zD; obtain ⟨a2, b6, a4, a5⟩ := at_T94 b5.out a0 a6 a7; have d1 := a5; have d2 := a4; cases b6; replace a4 := zx HB a4; replace a5 := zx HB a5; replace a6 := eq_true a6; replace a7 := eq_true a7
     refine start_ (n := 8) (S := fun w' => w'.cell? (a2.add ((a0).toNat * 2)) = some (.string ((rd_T94 l0 a0).f0)) ∧ w'.cell? ⟨(a2.add ((a0).toNat * 2)).block, (a2.add ((a0).toNat * 2)).off + 1, none⟩ = some (.string ((rd_T94 l0 a0).f1))) (ds := []) (Array.replicate 8 false) (by kernel_rfl) rfl rfl zO fun hHeld => ?_; refine with_tabW laws_heldNeedS.tab4 laws_heldNeedS.bits4 (fun HT_ HW_ => ?_)
     generalize wc.drew = f2 at HB a4 a5 hHeld ⊢; refine zp 0 12 ?_; refine zp 1 13 ?_; refine zp 2 14 ?_; refine zp 3 15 ?_; refine zp 5 17 ?_; refine zt 4 16 ?_
     refine zo 6 (some 18) fun K hK => ?_
     refine goes_ Try.func57 (by kernel_rfl) rfl #[.int .i64 a3] (by rfl) rfl rfl zM ?_
     with_reducible refine (laws_markText.calls b3 a3 b9 _ A7.out).mono ?_
     rintro e f3 ⟨rfl, hb⟩
     refine ⟨_, rfl, ?_⟩
     replace HB := zA (below_step (zB) hb)
     (try clear hb)
     refine hK.out _ _ zO fun hHeld => ?_
     clear hK K; refine zn ?_; refine zp 7 19 ?_
     refine done_ (done_of HT_.out (by kernel_rfl)) ?_
     try go_wp2
     go_ret
     exact ⟨zE, zB⟩
/-! ### laws_heldEntry: function 26 -/
def laws_heldEntry.f (k : Nat) (a8 : ByteArray) (a3 a4 a5 : Int) (a6 : List ByteArray) (a7 : List (S94)) (a1 : Int) : Option (Int) := (laws_heldVer.f k a3 a4 a5 a6 a1).bind fun a0 => (if a0 < 0 then (some (-1)) else ((laws_heldNeedS.f k a7 a0).bind fun a2 => (if a2 < 0 then (some (-1)) else (some a2))))
theorem laws_heldEntry.calls (k : Nat) (b2 : ByteArray) (a5 a6 a7 : Int) (a8 : Option Addr) (a9 : Nat) (a0 : List ByteArray) (b0 : Option Addr) (b1 : Nat) (a2 : List (S94)) (a1 r : Int) (w : World) (b5 : Kd.C Kd.string w a8 a0.length a0) (b6 : a0.length ≤ a9) (b7 : Kd.C k94 w b0 a2.length a2) (b8 : a2.length ≤ b1) (h : laws_heldEntry.f k b2 a5 a6 a7 a0 a2 a1 = some r) :
  Calls Try.prog 26 #[.agg #[.string b2, .int .i64 a5, .int .i64 a6, .int .i64 a7, .slice a8 a0.length a9, .slice b0 a2.length b1], .int .i64 a1] w fun e w' => e = .returned (.int .i64 r) ∧ Below w.heap.size w w' := by
 have c6 := Try.underlying44
 have c7 := Try.underlying41
 have c1 := zA b5
 have c2 := zA b6
 clear b5 b6
 have c3 := zA b7
 have c4 := zA b8
 clear b7 b8
 have HB := zA (Below.refl w.heap.size w)
 unfold laws_heldEntry.f at h
 have H := h
 clear h
 replace H := Option.bind_eq_some_iff.mp H
 obtain ⟨b3, b9, H⟩ := H
 try dsimp only at H
 have A3 := zA b9
 clear b9
 go_enter Try.func26, Try.ntmps26
 go_upto_if 10 with (first | ((with_reducible refine zd 2 ?_); refine ze 2 44 #[.string b2, .int .i64 a5, .int .i64 a6, .int .i64 a7, .slice a8 a0.length a9, .slice b0 a2.length b1] ?_; intro c8 hg w5 hbox hb; have a4 := zA (hbox); have c9 := zi HB hg; have d0 := zi HB hg; replace HB := zA (below_step (zB) hb); clear hb hbox hg; obtain ⟨d1, d2, d3, d4, d5, d6, d7, d8, d9, e0, e1, e2⟩ := ze6 a4.out) | ((with_reducible refine zq 59 ?_); refine zg (some 8) Try.func59 #[.agg #[.int .i64 a5, .int .i64 a6, .int .i64 a7, .slice a8 a0.length a9], .int .i64 a1] ?_; (with_reducible refine (laws_heldVer.calls k a5 a6 a7 _ _ a0 a1 b3 _ ?s1 ?s2 A3.out).mono ?_); (case s1 => exact zC (Kd.C_below c1.out HB.out)); (case s2 => exact c2.out); rintro e w7 ⟨rfl, hb⟩; refine ⟨_, rfl, ?_⟩; replace a4 := zb a4 hb; replace HB := zh HB hb; (try clear hb)))
 (try simp only [Act.put, zT])
 replace H := zI0 H
 rcases H with ⟨a3, H⟩ | ⟨a3, H⟩
 ·obtain rfl := zm H
  (try simp only [a3])
  go_wp2
  go_ret
  exact ⟨zE, zW HB.out⟩
 replace H := Option.bind_eq_some_iff.mp H
 obtain ⟨c5, c0, H⟩ := H
 try dsimp only at H
 have A8 := zA c0
 clear c0
 obtain ⟨e3, e4, e5, e6, e7, e8, e9, f0, f1, f2, f3, f4⟩ := ze6 a4.out
 (try simp only [a3, a3])
 go_upto_if 16 with (first | ((with_reducible refine zq 60 ?_); refine zg (some 14) Try.func60 #[.slice b0 a2.length b1, .int .i64 b3] ?_; (with_reducible refine (laws_heldNeedS.calls k _ _ a2 b3 c5 _ ?s1 ?s2 A8.out).mono ?_); (case s1 => exact zC (Kd.C_below c3.out HB.out)); (case s2 => exact c4.out); rintro e f5 ⟨rfl, hb⟩; refine ⟨_, rfl, ?_⟩; replace a4 := zb a4 hb; replace HB := zh HB hb; (try clear hb)))
 (try simp only [Act.put, zT])
 replace H := zI0 H
 rcases H with ⟨b4, H⟩ | ⟨b4, H⟩
 ·obtain rfl := zm H
  (try simp only [a3, a3, b4])
  go_wp2
  go_ret
  exact ⟨zE, zW HB.out⟩
 obtain rfl := zm H
 (try simp only [a3, a3, b4])
 go_wp2
 go_ret
 exact ⟨zE, zW HB.out⟩
end Go.Proofs.Ytbaeljcnbkeipaa.PGC
