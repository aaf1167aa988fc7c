/- The walks of the functions that these laws reach, and what each comes to: printed by this session's program. -/
import Derived.Deep.CutBlock
import Derived.Test.YtpcdhoeoefoeoaaGreatDoorZGCPGCx0
import Derived.Test.YtpcdhoeoefoeoaaGreatDoorZGCPGCx3
import Derived.Test.YtpcdhoeoefoeoaaGreatDoorZGCSays
namespace Go.Proofs.YtpcdhoeoefoeoaaGreatDoor.PGC
open Go.RowKit YtpcdhoeoefoeoaaGreatDoorW.PrintWords YtpcdhoeoefoeoaaGreatDoorW.PrintLast YtpcdhoeoefoeoaaGreatDoorW.PrintMore
attribute [local go_sem high] Mine.str_gtr Mine.str_leq Mine.str_geq
attribute [local go_sem] max2_int min2_int max_two min_two max_three min_three max_four min_four   -- for this text's walks alone
set_option linter.unusedVariables false
set_option maxHeartbeats 8000000
set_option maxRecDepth 100000
set_option linter.unusedSimpArgs false
/-! ### spec_ParseVer: function 124 -/
mutual
def spec_ParseVer.j1 : Nat → ByteArray → Int → Int → Int → Int → Option (Int × Int × Int × List ByteArray × Bool)
 | 0, _, _, _, _, _ => none
 | k + 1, x0, x5, a0, a1, a2 => if x5 < (x0.size : Int) then (if 0 ≤ (wrap64 (x5 + 1)) then (if (wrap64 (x5 + 1)) ≤ (x0.size : Int) then ((spec_Split.f k (x0.extract ((wrap64 (x5 + 1)) : Int).toNat x0.size) 46).bind fun a8 => (spec_ParseVer.j2 k x0 x5 a0 a1 a2 a8)) else (none)) else (none)) else (spec_ParseVer.j2 k x0 x5 a0 a1 a2 ([] : List ByteArray))
def spec_ParseVer.j2 : Nat → ByteArray → Int → Int → Int → Int → List ByteArray → Option (Int × Int × Int × List ByteArray × Bool)
 | 0, _, _, _, _, _, _ => none
 | k + 1, x0, x5, a0, a1, a2, a3 => if 0 ≤ x5 then (if x5 ≤ (x0.size : Int) then ((spec_Split.f k (x0.extract 0 (x5 : Int).toNat) 46).bind fun a7 => (if (a7.length : Int) = 3 then (spec_ParseVer.j3 k a7 a0 a1 a2 a3) else (some (0, 0, 0, ([] : List ByteArray), false)))) else (none)) else (none)
def spec_ParseVer.j3 : Nat → List ByteArray → Int → Int → Int → List ByteArray → Option (Int × Int × Int × List ByteArray × Bool)
 | 0, _, _, _, _, _ => none
 | k + 1, x6, a0, a1, a2, a3 => if 0 < (x6.length : Int) then ((spec_ParseNum.f k (rdOf ByteArray.empty x6 0) 9999).bind fun a4 => (if 1 < (x6.length : Int) then ((spec_ParseNum.f k (rdOf ByteArray.empty x6 1) 9999).bind fun a5 => (if 2 < (x6.length : Int) then ((spec_ParseNum.f k (rdOf ByteArray.empty x6 2) 9999).bind fun a6 => (if a4.2 = true then (if a5.2 = true then (if a6.2 = true then ((spec_VerOk.f k a4.1 a5.1 a6.1 a3).bind fun a9 => (if a9 = true then (some (a4.1, a5.1, a6.1, a3, true)) else (some (0, 0, 0, ([] : List ByteArray), false)))) else (some (0, 0, 0, ([] : List ByteArray), false))) else (some (0, 0, 0, ([] : List ByteArray), false))) else (some (0, 0, 0, ([] : List ByteArray), false)))) else (none))) else (none))) else (none)
def spec_ParseVer.l0 : Nat → ByteArray → Int → Int → Int → Int → Option (Int × Int × Int × List ByteArray × Bool)
 | 0, _, _, _, _, _ => none
 | k + 1, x0, x5, a0, a1, a2 => if x5 < (x0.size : Int) then (if 0 ≤ x5 then (if (bt x0 x5) = 45 then (spec_ParseVer.j1 k x0 x5 a0 a1 a2) else (spec_ParseVer.l0 k x0 (wrap64 (x5 + 1)) a0 a1 a2)) else (none)) else (spec_ParseVer.j1 k x0 x5 a0 a1 a2)
end
def spec_ParseVer.f (k : Nat) (a0 : ByteArray) : Option (Int × Int × Int × List ByteArray × Bool) := spec_ParseVer.l0 k a0 0 0 0 0
theorem spec_ParseVer.calls (k : Nat) (a0 : ByteArray) (r1 r2 r3 : Int) (r4 : List ByteArray) (r5 : Bool) (w : World) (h : spec_ParseVer.f k a0 = some (r1, r2, r3, r4, r5)) :
  Calls Tryz.prog 124 #[.string a0] w fun e w' => ∃ i2 : Value, e = .returned (.tuple #[.agg #[.int .i64 r1, .int .i64 r2, .int .i64 r3, i2], .bool r5]) ∧ Kd.R Kd.string 9 w' w.heap.size (fun _ => True) i2 r4 ∧ Below w.heap.size w w' := by
 have n2 := Tryz.underlying32
 have HB := zA (Below.refl w.heap.size w)
 unfold spec_ParseVer.f at h
 have H := h
 clear h
 have h7 := Aside0.mk H
 clear H
 go_enter Tryz.func124, Tryz.ntmps124
 go_upto_block 0 with (first | ((with_reducible refine zd 2 ?_); refine ze 2 32 #[.int .i64 0, .int .i64 0, .int .i64 0, .slice none 0 0] ?_; intro b1 hg w3 hbox hb; have a2 := zA (hbox); have n3 := zi HB hg; have n4 := zi HB hg; replace HB := zA (below_step (zB) hb); clear hb hbox hg) | ((with_reducible refine zd 4 ?_); refine ze 4 32 #[.int .i64 0, .int .i64 0, .int .i64 0, .slice none 0 0] ?_; intro a8 hg w4 hbox hb; have a3 := zA (hbox); have n5 := zi HB hg; have n6 := zi HB hg; replace HB := zh HB hb; have e0 := zA (zL hg (zK a2.out)); have e1 := zA (zJ hg (zK a2.out)); replace a2 := zb a2 hb; clear hb hbox hg; have n7 := e1.out; have n8 := e0.out; obtain ⟨f7, f8, f9, g0, g1, g2, g3, g4⟩ := ze4 a3.out))
 (try simp only [Act.put, zT])
 go_cut [5] (fun v5 wc => ∃ (kq : Nat) (b2 : Int), v5 = .int .i64 b2 ∧ Aside0 (spec_ParseVer.j1 kq a0 b2 0 0 0 = some (r1, r2, r3, r4, r5)) ∧ Aside0 (kq ≤ k) ∧ Aside0 (wc.heap[b1]? = some (.cells #[.int .i64 0, .int .i64 0, .int .i64 0, (.slice none 0 0)] 32 (0, 0))) ∧ Aside0 (wc.heap[a8]? = some (.cells #[.int .i64 0, .int .i64 0, .int .i64 0, (.slice none 0 0)] 32 (0, 0))) ∧ Aside0 (Below w.heap.size w wc))
 case first =>
  have H := h7.out
  clear h7
  have H' := Aside0.mk H
  clear H
  go_wp2
  go_loopg [5] k (fun kq v5 w' => ∃ (b2 : Int), v5 = .int .i64 b2 ∧ Aside0 (spec_ParseVer.l0 kq a0 b2 0 0 0 = some (r1, r2, r3, r4, r5)) ∧ Aside0 (kq ≤ k) ∧ Aside0 (w'.heap[b1]? = some (.cells #[.int .i64 0, .int .i64 0, .int .i64 0, (.slice none 0 0)] 32 (0, 0))) ∧ Aside0 (w'.heap[a8]? = some (.cells #[.int .i64 0, .int .i64 0, .int .i64 0, (.slice none 0 0)] 32 (0, 0))) ∧ Aside0 (Below w.heap.size w w'))
  case atStart => exact ⟨(0), zS, H', ⟨Nat.le_refl _⟩, ⟨zK a2.out⟩, ⟨zk4 a3.out⟩, ⟨zW HB.out⟩⟩
  case round =>
   clear H'
   try clear c1
   try clear p2
   try clear c5
   try clear f7 f8 f9 g0 g1 g2 g3 g4
   obtain ⟨b2, rfl, HA, g5, a2, a3, HB⟩ := hrel
   cases gk with
   | zero => exact absurd HA.out (by simp [spec_ParseVer.l0])
   | succ k1 =>
    have H := HA.out
    clear HA
    simp only [spec_ParseVer.l0] at H
    replace H := zI0 H
    rcases H with ⟨e2, H⟩ | ⟨e2, H⟩
    ·(first | rw [e2] | (simp only [i64_w, i32_w]; rw [e2]) | skip)
     replace H := zD0 H
     obtain ⟨h8, H⟩ := H
     replace H := zI1 H
     rcases H with ⟨d4, H⟩ | ⟨d4, H⟩
     ·have g6 := beq_iff_eq.mpr d4
      have g7 := bne_eq_false_iff_eq.mpr d4
      clear d4
      have H' := Aside0.mk H
      clear H
      have p9 : 0 ≤ (b2 : Int) := zD
      have q9 : b2 < (a0.size : Int) := zD
      have g8 := bt_at a0 b2
      replace p9 := eq_true p9
      replace q9 := eq_true q9
      go_wp2
      go_meet
      case rel => exact ⟨_, (b2), zS, (by first | exact H' | (subst_vars; exact H')), ⟨by have := g5.out; first | omega | exact Nat.le_refl _⟩, ⟨zK a2.out⟩, ⟨zK a3.out⟩, ⟨zW HB.out⟩⟩
     ·have g6 := beq_eq_false_iff_ne.mpr d4
      have g7 := bne_iff_ne.mpr d4
      have H' := Aside0.mk H
      clear H
      have p9 : 0 ≤ (b2 : Int) := zD
      have q9 : b2 < (a0.size : Int) := zD
      have g8 := bt_at a0 b2
      replace p9 := eq_true p9
      replace q9 := eq_true q9
      go_wp2
      go_roundg k1
      case measure => have := g5.out; omega
      case rel => exact ⟨(wrap64 (b2 + 1)), zS, H', ⟨by have := g5.out; omega⟩, ⟨zK a2.out⟩, ⟨zK a3.out⟩, ⟨zW HB.out⟩⟩
    ·(first | rw [e2] | (simp only [i64_w, i32_w]; rw [e2]) | skip)
     have H' := Aside0.mk H
     clear H
     go_wp2
     go_meet
     case rel => exact ⟨_, (b2), zS, (by first | exact H' | (subst_vars; exact H')), ⟨by have := g5.out; first | omega | exact Nat.le_refl _⟩, ⟨zK a2.out⟩, ⟨zK a3.out⟩, ⟨zW HB.out⟩⟩
 case rest =>
  clear h7
  try clear c1
  try clear p2
  try clear c5
  try clear p6
  try clear c7
  try clear e2
  try clear c8
  try clear h8
  try clear p9
  try clear q9
  try clear g8
  try clear d4
  try clear g6
  try clear g7
  try clear f7 f8 f9 g0 g1 g2 g3 g4
  try clear p2
  try clear p9
  try clear q9
  obtain ⟨kq, b2, rfl, HA, h9, a2, a3, HB⟩ := hcut
  cases kq with
  | zero => exact absurd HA.out (by simp [spec_ParseVer.j1])
  | succ g9 =>
   have H := HA.out
   clear HA
   simp only [spec_ParseVer.j1] at H
   have i0 := Aside0.mk H
   clear H
   go_upto_if 29 with (fail)
   go_cut [] (fun wc => ∃ (kq : Nat) (b0 : List ByteArray) (a4 : Value), Aside0 (spec_ParseVer.j2 kq a0 b2 0 0 0 b0 = some (r1, r2, r3, r4, r5)) ∧ Aside0 (kq ≤ g9) ∧ Aside0 (Kd.R Kd.string 9 wc w.heap.size (fun _ => True) a4 b0) ∧ Aside0 (wc.heap[b1]? = some (.cells #[.int .i64 0, .int .i64 0, .int .i64 0, (.slice none 0 0)] 32 (0, 0))) ∧ Aside0 (wc.heap[a8]? = some (.cells #[.int .i64 0, .int .i64 0, .int .i64 0, a4] 32 (0, 0))) ∧ Aside0 (Below w.heap.size w wc))
   case first =>
    have H := i0.out
    clear i0
    replace H := zI0 H
    rcases H with ⟨e3, H⟩ | ⟨e3, H⟩
    ·(first | rw [e3] | (simp only [i64_w, i32_w]; rw [e3]) | skip)
     obtain ⟨e5, h0⟩ : ∃ j_ : Int, (wrap64 (b2 + 1)) = j_ := ⟨_, rfl⟩
     replace H : (if 0 ≤ (e5) then (if (e5) ≤ (a0.size : Int) then ((spec_Split.f g9 (a0.extract ((e5) : Int).toNat a0.size) 46).bind fun e6 => (spec_ParseVer.j2 g9 a0 b2 0 0 0 e6)) else (none)) else (none)) = some (r1, r2, r3, r4, r5) := by first | (rw [h0] at H; exact H) | (simp only [h0] at H ⊢; exact H)
     have hji13w : (IntKind.i64.wrap (b2 + 1)) = e5 := (i64_w _).trans h0
     replace H := zC0 H
     obtain ⟨f0, H⟩ := H
     have i3 := eq_true f0
     have i4 := decide_eq_true f0
     clear f0
     replace H := zC0 H
     obtain ⟨f1, H⟩ := H
     have i5 := eq_true f1
     have i6 := decide_eq_true f1
     clear f1
     replace H := zj H
     obtain ⟨e6, l2, H⟩ := H
     try dsimp only at H
     have H' := Aside0.mk H
     clear H
     go_wp2_with (first | ((with_reducible refine gate_callee (f := 78) rfl ?_); refine goesL_ (some 34) rfl rfl Tryz.func78 (by kernel_rfl) rfl #[.string (a0.extract ((e5) : Int).toNat a0.size), .int .u8 46] rfl (by (try simp only [List.map_toArray, List.map_cons, List.map_nil]); first | done | (simp only [h0]; rfl) | rfl | (simp only [List.length_drop, List.length_take]; rfl)) ?_; (with_reducible refine (spec_Split.calls g9 (a0.extract ((e5) : Int).toNat a0.size) 46 e6 _ l2.out).mono ?_); rintro e n9 ⟨o0, rfl, e7, hb⟩; refine ⟨_, rfl, ?_⟩; have i7 := zA (Kd.R_lower e7 (below_size (zW HB.out))); replace a2 := zb a2 hb; replace a3 := zb a3 hb; replace HB := zh HB hb; (try clear hb e7); obtain ⟨i8, i9, l3⟩ := Kd.R_slice i7.out; subst l3; have o1 := e1.out; have o2 := e0.out; obtain ⟨j0, j4, j5, j6, j7, j8, j9, k0⟩ := ze4 a3.out))
     go_meet
     case rel => exact ⟨_, (e6), (.slice i8 e6.length i9), (by first | exact H' | (subst_vars; exact H')), ⟨by have := h9.out; first | omega | exact Nat.le_refl _⟩, ⟨zR (Kd.R_mono (Kd.R_far (p := ⟨a8, 3, none⟩) (Kd.R_types i7.out a3.out (by decide)) (fun _ hk => hk.2) (.slice i8 e6.length i9)) (fun _ hk => trivial))⟩, ⟨zK a2.out⟩, ⟨by (with_reducible repeat (first | refine blk_drewN ?_ _ | refine blk_drew ?_ | refine blk_alloc ?_ _)); refine blk_put (cs := #[.int .i64 0, .int .i64 0, .int .i64 0, .slice none 0 0]) ?_ 3 _ rfl; (with_reducible repeat (first | refine blk_drewN ?_ _ | refine blk_drew ?_ | refine blk_alloc ?_ _)); exact a3.out⟩, ⟨zW HB.out⟩⟩
    ·(first | rw [e3] | (simp only [i64_w, i32_w]; rw [e3]) | skip)
     have H' := Aside0.mk H
     clear H
     go_wp2
     go_meet
     case rel => exact ⟨_, (([] : List ByteArray)), (.slice none 0 0), (by first | exact H' | (subst_vars; exact H')), ⟨by have := h9.out; first | omega | exact Nat.le_refl _⟩, ⟨by first | exact Kd.R_nil _ _ _ _ _ | exact Kd.N_nil _ _ _ _ _ | exact Kd.V_nil _ _ _ _ _ | exact Kd.Q_nil _ _ _ _ _ | exact Kd.S_nil _ _ _ _ _⟩, ⟨zK a2.out⟩, ⟨zK a3.out⟩, ⟨zW HB.out⟩⟩
   case rest =>
    clear i0
    try clear c1
    try clear p2
    try clear c5
    try clear p6
    try clear c7
    try clear e2
    try clear c8
    try clear h8
    try clear p9
    try clear q9
    try clear g8
    try clear d4
    try clear g6
    try clear g7
    try clear c12
    try clear e3
    try clear f0
    try clear i3
    try clear i4
    try clear f1
    try clear i5
    try clear i6
    try clear c19
    try clear j0 j4 j5 j6 j7 j8 j9 k0
    try clear f7 f8 f9 g0 g1 g2 g3 g4
    try clear p2
    try clear p6
    try clear p9
    try clear q9
    obtain ⟨kq, b0, a4, HA, l4, a6, a2, a3, HB⟩ := hcut
    cases kq with
    | zero => exact absurd HA.out (by simp [spec_ParseVer.j2])
    | succ k2 =>
     have H := HA.out
     clear HA
     simp only [spec_ParseVer.j2] at H
     replace H := zC0 H
     obtain ⟨h1, H⟩ := H
     have l5 := eq_true h1
     have l6 := decide_eq_true h1
     clear h1
     replace H := zC0 H
     obtain ⟨h2, H⟩ := H
     have l7 := eq_true h2
     have l8 := decide_eq_true h2
     clear h2
     replace H := zj H
     obtain ⟨a1, l9, H⟩ := H
     try dsimp only at H
     have i1 := Aside0.mk H
     clear H
     go_upto_if 42 with (first | ((with_reducible refine zq 78 ?_); refine zg (some 39) Tryz.func78 #[.string (a0.extract 0 (b2 : Int).toNat), .int .u8 46] ?_; (with_reducible refine (spec_Split.calls k2 (a0.extract 0 (b2 : Int).toNat) 46 a1 _ l9.out).mono ?_); rintro e o3 ⟨o4, rfl, e7, hb⟩; refine ⟨_, rfl, ?_⟩; have k3 := zA (Kd.R_lower (Kd.R_new' e7 (Kd.R_lt (zR a6.out))) (below_size (zW HB.out))); replace a6 := zA (Kd.R_elder' (zR a6.out) (Kd.R_base e7) hb); replace a2 := zb a2 hb; replace a3 := zb a3 hb; replace HB := zh HB hb; (try clear hb e7); obtain ⟨k4, a9, m0⟩ := Kd.R_slice k3.out; subst m0))
     (try simp only [Act.put, zT])
     go_cut [] (fun wc => ∃ (kq : Nat) (c3 : Int) (c4 : Int) (c6 : Int), Aside0 (spec_ParseVer.j3 kq a1 0 0 0 b0 = some (r1, r2, r3, r4, r5)) ∧ Aside0 (kq ≤ k2) ∧ Aside0 (Kd.R Kd.string 9 wc w.heap.size (fun k_ => some k_ ≠ (a4 : Value).ownBlock) (.slice k4 a1.length a9) a1) ∧ Aside0 (Kd.R Kd.string 9 wc w.heap.size (fun k_ => some k_ ≠ ((.slice k4 a1.length a9) : Value).ownBlock) a4 b0) ∧ Aside0 (wc.heap[b1]? = some (.cells #[.int .i64 c3, .int .i64 c4, .int .i64 c6, (.slice none 0 0)] 32 (0, 0))) ∧ Aside0 (wc.heap[a8]? = some (.cells #[.int .i64 0, .int .i64 0, .int .i64 0, a4] 32 (0, 0))) ∧ Aside0 (Below w.heap.size w wc))
     case first =>
      have H := i1.out
      clear i1
      replace H := zI1 H
      rcases H with ⟨e4, H⟩ | ⟨e4, H⟩
      ·have e8 := beq_iff_eq.mpr e4
       have k5 := bne_eq_false_iff_eq.mpr e4
       clear e4
       (first | rw [e8] | (simp only [i64_w, i32_w]; rw [e8]) | skip)
       have H' := Aside0.mk H
       clear H
       go_wp2
       go_meet
       case rel => exact ⟨_, (0), (0), (0), (by first | exact H' | (subst_vars; exact H')), ⟨by have := h9.out; have := l4.out; first | omega | exact Nat.le_refl _⟩, ⟨zR (Kd.R_mono k3.out (fun _ hk => hk.2))⟩, ⟨zR (Kd.R_mono a6.out (fun _ hk => hk.2))⟩, ⟨zK a2.out⟩, ⟨zK a3.out⟩, ⟨zW HB.out⟩⟩
      ·have e8 := beq_eq_false_iff_ne.mpr e4
       have k5 := bne_iff_ne.mpr e4
       (first | rw [e8] | (simp only [i64_w, i32_w]; rw [e8]) | skip)
       simp only [Option.some.injEq, Prod.mk.injEq] at H
       obtain ⟨rfl, rfl, rfl, rfl, rfl⟩ := H
       have o5 := e0.out
       have o6 := e1.out
       obtain ⟨m1, m2, m3, m4, m5, m6, m7, m8⟩ := ze4 a2.out
       go_wp2
       refine bodyPost_ret (results_ct rfl _ _ b1 32 #[.int .i64 0, .int .i64 0, .int .i64 0, .slice none 0 0] (0, 0) _ rfl (zk4 a2.out) Tryz.underlying32 rfl (by kernel_rfl)) rfl ?_
       exact ⟨_, zE, by first | exact Kd.R_nil _ _ _ _ _ | exact Kd.N_nil _ _ _ _ _ | exact Kd.V_nil _ _ _ _ _ | exact Kd.Q_nil _ _ _ _ _ | exact Kd.S_nil _ _ _ _ _, zW HB.out⟩
     case rest =>
      clear i1
      try clear c1
      try clear c2
      try clear p2
      try clear c5
      try clear p6
      try clear c7
      try clear e2
      try clear c8
      try clear h8
      try clear p9
      try clear q9
      try clear g8
      try clear d4
      try clear g6
      try clear g7
      try clear c12
      try clear e3
      try clear f0
      try clear i3
      try clear i4
      try clear f1
      try clear i5
      try clear i6
      try clear c19
      try clear h1
      try clear l5
      try clear l6
      try clear h2
      try clear l7
      try clear l8
      try clear e4
      try clear e8
      try clear k5
      try clear c28
      try clear j0 j4 j5 j6 j7 j8 j9 k0
      try clear m1 m2 m3 m4 m5 m6 m7 m8
      try clear f7 f8 f9 g0 g1 g2 g3 g4
      try clear p2
      try clear p6
      try clear p9
      try clear q9
      obtain ⟨kq, c3, c4, c6, HA, o7, a5, a6, a2, a3, HB⟩ := hcut
      cases kq with
      | zero => exact absurd HA.out (by simp [spec_ParseVer.j3])
      | succ c9 =>
       have H := HA.out
       clear HA
       simp only [spec_ParseVer.j3] at H
       replace H := zC0 H
       obtain ⟨k6, H⟩ := H
       have o8 := decide_eq_true k6
       have o9 : decide (0 < a1.length) = true := decide_eq_true (by omega)
       clear k6
       replace H := zj H
       obtain ⟨⟨b3, p0⟩, f2, H⟩ := H
       try dsimp only at H
       replace H := zC0 H
       obtain ⟨k7, H⟩ := H
       have p1 := decide_eq_true k7
       have p3 : decide (1 < a1.length) = true := decide_eq_true (by omega)
       clear k7
       replace H := zj H
       obtain ⟨⟨c0, m9⟩, f3, H⟩ := H
       try dsimp only at H
       replace H := zC0 H
       obtain ⟨k8, H⟩ := H
       have p4 := decide_eq_true k8
       have p5 : decide (2 < a1.length) = true := decide_eq_true (by omega)
       clear k8
       replace H := zj H
       obtain ⟨⟨d0, k9⟩, f4, H⟩ := H
       try dsimp only at H
       replace H := zB0 H
       rcases H with ⟨rfl, H⟩ | ⟨rfl, H⟩
       ·replace H := zB0 H
        rcases H with ⟨rfl, H⟩ | ⟨rfl, H⟩
        ·replace H := zB0 H
         rcases H with ⟨rfl, H⟩ | ⟨rfl, H⟩
         ·replace H := zj H
          obtain ⟨p7, l1, H⟩ := H
          try dsimp only at H
          replace H := zB0 H
          rcases H with ⟨rfl, H⟩ | ⟨rfl, H⟩
          ·simp only [Option.some.injEq, Prod.mk.injEq] at H
           obtain ⟨rfl, rfl, rfl, rfl, rfl⟩ := H
           have b4 : 0 ≤ (0 : Int) := (by omega)
           have b5 : 0 < (a1.length : Int) := zD
           obtain ⟨a7, d5, d1⟩ := Kd.at_string (Kd.R_reads' a5.out).2.2 0 b4 b5
           cases d5
           have h3 : (0 < a1.length) = True := eq_true (by omega)
           (try rw [show ((0 : Int)).toNat = 0 from rfl] at d1)
           (try rw [Addr.add_zero'] at d1)
           replace b4 := eq_true b4
           replace b5 := eq_true b5
           go_wp2_with (first | ((with_reducible refine zq 152 ?_); refine zg (some 48) Tryz.func152 #[.string (rdOf ByteArray.empty a1 0), .int .i64 9999] ?_; (with_reducible refine (spec_ParseNum.calls c9 (rdOf ByteArray.empty a1 0) 9999 b3 true _ f2.out).mono ?_); rintro e w' ⟨rfl, ⟨nd, rfl⟩⟩; refine ⟨_, rfl, ?_⟩; (try (rw [drewN_self wc]; generalize hq_ : World.drewN wc _ = wc; replace a6 : Aside0 (Kd.R Kd.string 9 wc w.heap.size (fun k_ => some k_ ≠ (.slice (some a7) a1.length a9 : Value).ownBlock) a4 b0) := ⟨by rw [← hq_]; exact (zR a6.out)⟩; replace a5 : Aside0 (Kd.R Kd.string 9 wc w.heap.size (fun k_ => some k_ ≠ (a4 : Value).ownBlock) (.slice (some a7) a1.length a9) a1) := ⟨by rw [← hq_]; exact (zR a5.out)⟩; replace a2 : Aside0 (wc.heap[b1]? = some (.cells #[.int .i64 c3, .int .i64 c4, .int .i64 c6, .slice none 0 0] 32 (0, 0))) := ⟨by rw [← hq_]; exact (zK a2.out)⟩; replace a3 : Aside0 (wc.heap[a8]? = some (.cells #[.int .i64 0, .int .i64 0, .int .i64 0, a4] 32 (0, 0))) := ⟨by rw [← hq_]; exact (zK a3.out)⟩; replace HB : Aside0 (Below w.heap.size w wc) := ⟨by rw [← hq_]; exact (zW HB.out)⟩; clear hq_)); have b6 : 0 ≤ (1 : Int) := (by omega); have b7 : 1 < (a1.length : Int) := zD; obtain ⟨d6, d7, d2⟩ := Kd.at_string (Kd.R_reads' a5.out).2.2 1 b6 b7; obtain rfl : a7 = d6 := (by injection d7); (try simp only [show (1 : Int).toNat = 1 from rfl, Nat.reduceMul, Nat.reduceEqDiff, Go.Addr.add, ↓reduceIte] at d2); have h4 : (1 < a1.length) = True := eq_true (by omega); (try rw [show ((1 : Int)).toNat = 1 from rfl] at d2); replace b6 := eq_true b6; replace b7 := eq_true b7) | ((with_reducible refine zq 152 ?_); refine zg (some 55) Tryz.func152 #[.string (rdOf ByteArray.empty a1 1), .int .i64 9999] ?_; (with_reducible refine (spec_ParseNum.calls c9 (rdOf ByteArray.empty a1 1) 9999 c0 true _ f3.out).mono ?_); rintro e w' ⟨rfl, ⟨nd, rfl⟩⟩; refine ⟨_, rfl, ?_⟩; (try (rw [drewN_self wc]; generalize hq_ : World.drewN wc _ = wc; replace a6 : Aside0 (Kd.R Kd.string 9 wc w.heap.size (fun k_ => some k_ ≠ (.slice (some a7) a1.length a9 : Value).ownBlock) a4 b0) := ⟨by rw [← hq_]; exact (zR a6.out)⟩; replace a5 : Aside0 (Kd.R Kd.string 9 wc w.heap.size (fun k_ => some k_ ≠ (a4 : Value).ownBlock) (.slice (some a7) a1.length a9) a1) := ⟨by rw [← hq_]; exact (zR a5.out)⟩; replace a2 : Aside0 (wc.heap[b1]? = some (.cells #[.int .i64 c3, .int .i64 c4, .int .i64 c6, .slice none 0 0] 32 (0, 0))) := ⟨by rw [← hq_]; exact (zK a2.out)⟩; replace a3 : Aside0 (wc.heap[a8]? = some (.cells #[.int .i64 0, .int .i64 0, .int .i64 0, a4] 32 (0, 0))) := ⟨by rw [← hq_]; exact (zK a3.out)⟩; replace HB : Aside0 (Below w.heap.size w wc) := ⟨by rw [← hq_]; exact (zW HB.out)⟩; clear hq_)); have b8 : 0 ≤ (2 : Int) := (by omega); have b9 : 2 < (a1.length : Int) := zD; obtain ⟨d8, d9, d3⟩ := Kd.at_string (Kd.R_reads' a5.out).2.2 2 b8 b9; obtain rfl : a7 = d8 := (by injection d9); (try simp only [show (2 : Int).toNat = 2 from rfl, Nat.reduceMul, Nat.reduceEqDiff, Go.Addr.add, ↓reduceIte] at d3); have h5 : (2 < a1.length) = True := eq_true (by omega); (try rw [show ((2 : Int)).toNat = 2 from rfl] at d3); replace b8 := eq_true b8; replace b9 := eq_true b9) | ((with_reducible refine zq 152 ?_); refine zg (some 62) Tryz.func152 #[.string (rdOf ByteArray.empty a1 2), .int .i64 9999] ?_; (with_reducible refine (spec_ParseNum.calls c9 (rdOf ByteArray.empty a1 2) 9999 d0 true _ f4.out).mono ?_); rintro e w' ⟨rfl, ⟨nd, rfl⟩⟩; refine ⟨_, rfl, ?_⟩; (try (rw [drewN_self wc]; generalize hq_ : World.drewN wc _ = wc; replace a6 : Aside0 (Kd.R Kd.string 9 wc w.heap.size (fun k_ => some k_ ≠ (.slice (some a7) a1.length a9 : Value).ownBlock) a4 b0) := ⟨by rw [← hq_]; exact (zR a6.out)⟩; replace a5 : Aside0 (Kd.R Kd.string 9 wc w.heap.size (fun k_ => some k_ ≠ (a4 : Value).ownBlock) (.slice (some a7) a1.length a9) a1) := ⟨by rw [← hq_]; exact (zR a5.out)⟩; replace a2 : Aside0 (wc.heap[b1]? = some (.cells #[.int .i64 c3, .int .i64 c4, .int .i64 c6, .slice none 0 0] 32 (0, 0))) := ⟨by rw [← hq_]; exact (zK a2.out)⟩; replace a3 : Aside0 (wc.heap[a8]? = some (.cells #[.int .i64 0, .int .i64 0, .int .i64 0, a4] 32 (0, 0))) := ⟨by rw [← hq_]; exact (zK a3.out)⟩; replace HB : Aside0 (Below w.heap.size w wc) := ⟨by rw [← hq_]; exact (zW HB.out)⟩; clear hq_)); have p8 := e1.out; have q0 := e0.out; obtain ⟨q1, q2, q3, q4, q5, q6, q7, q8⟩ := ze4 a3.out; obtain ⟨f5, e9, n0⟩ := Kd.R_slice a6.out; subst n0) | (go_at_call 68; (with_reducible refine (spec_VerOk.calls c9 b3 c0 d0 _ _ b0 true _ ?side1 ?side2 l1.out).mono ?_); (case side1 => refine (Kd.R_reads' (e := 9) (base := w.heap.size) (ok := fun k_ => some k_ ≠ (.slice (some a7) a1.length a9 : Value).ownBlock) (n := b0.length) (c := e9) ?_).2.2; exact (zR (Kd.R_mono (Kd.R_far (p := ⟨a8, 2, none⟩) (Kd.R_far (p := ⟨a8, 1, none⟩) (Kd.R_far (p := ⟨a8, 0, none⟩) (Kd.R_types a6.out a3.out (by decide)) (fun _ hk => hk.2) (.int .i64 b3)) (fun _ hk => hk.2) (.int .i64 c0)) (fun _ hk => hk.2) (.int .i64 d0)) (fun _ h_ => h_.1)))); (case side2 => exact (Kd.R_reads' a6.out).2.1); rintro e r0 ⟨rfl, hb⟩; replace a5 := zA (Kd.R_below (zR (Kd.R_mono (Kd.R_far (p := ⟨a8, 2, none⟩) (Kd.R_far (p := ⟨a8, 1, none⟩) (Kd.R_far (p := ⟨a8, 0, none⟩) (Kd.R_types a5.out a3.out (by decide)) (fun _ hk => hk.2) (.int .i64 b3)) (fun _ hk => hk.2) (.int .i64 c0)) (fun _ hk => hk.2) (.int .i64 d0)) (fun _ h_ => h_.1))) hb); replace a6 := zA (Kd.R_below (zR (Kd.R_mono (Kd.R_far (p := ⟨a8, 2, none⟩) (Kd.R_far (p := ⟨a8, 1, none⟩) (Kd.R_far (p := ⟨a8, 0, none⟩) (Kd.R_types a6.out a3.out (by decide)) (fun _ hk => hk.2) (.int .i64 b3)) (fun _ hk => hk.2) (.int .i64 c0)) (fun _ hk => hk.2) (.int .i64 d0)) (fun _ h_ => h_.1))) hb); replace a2 := zb a2 hb; replace a3 := zA (blk_below (g := a8) (o := .cells #[.int .i64 b3, .int .i64 c0, .int .i64 d0, .slice f5 b0.length e9] 32 (0, 0)) (by (with_reducible repeat (first | refine blk_drewN ?_ _ | refine blk_drew ?_ | refine blk_alloc ?_ _)); refine blk_put (cs := #[.int .i64 b3, .int .i64 c0, .int .i64 0, .slice f5 b0.length e9]) ?_ 2 _ rfl; (with_reducible repeat (first | refine blk_drewN ?_ _ | refine blk_drew ?_ | refine blk_alloc ?_ _)); refine blk_put (cs := #[.int .i64 b3, .int .i64 0, .int .i64 0, .slice f5 b0.length e9]) ?_ 1 _ rfl; (with_reducible repeat (first | refine blk_drewN ?_ _ | refine blk_drew ?_ | refine blk_alloc ?_ _)); refine blk_put (cs := #[.int .i64 0, .int .i64 0, .int .i64 0, .slice f5 b0.length e9]) ?_ 0 _ rfl; (with_reducible repeat (first | refine blk_drewN ?_ _ | refine blk_drew ?_ | refine blk_alloc ?_ _)); exact a3.out) hb); replace HB := zh HB hb; (try clear hb); obtain ⟨r6, r7, r8, r9, t0, t1, t2, t3⟩ := ze4 a3.out; obtain ⟨t4, t5, t6, t7, t8, t9, v0, v1⟩ := ze4 a2.out))
           refine bodyPost_ret (results_ct rfl _ _ b1 32 #[.int .i64 b3, .int .i64 c0, .int .i64 d0, .slice f5 b0.length e9] (0, 0) _ rfl (zk4 a2.out) Tryz.underlying32 rfl (by kernel_rfl)) rfl ?_
           exact ⟨_, zE, zR (Kd.R_mono (zr4 a6.out a2.out) (fun _ hk => trivial)), zW HB.out⟩
          ·simp only [Option.some.injEq, Prod.mk.injEq] at H
           obtain ⟨rfl, rfl, rfl, rfl, rfl⟩ := H
           have b4 : 0 ≤ (0 : Int) := (by omega)
           have b5 : 0 < (a1.length : Int) := zD
           obtain ⟨a7, d5, d1⟩ := Kd.at_string (Kd.R_reads' a5.out).2.2 0 b4 b5
           cases d5
           have h3 : (0 < a1.length) = True := eq_true (by omega)
           (try rw [show ((0 : Int)).toNat = 0 from rfl] at d1)
           (try rw [Addr.add_zero'] at d1)
           replace b4 := eq_true b4
           replace b5 := eq_true b5
           go_wp2_with (first | ((with_reducible refine zq 152 ?_); refine zg (some 48) Tryz.func152 #[.string (rdOf ByteArray.empty a1 0), .int .i64 9999] ?_; (with_reducible refine (spec_ParseNum.calls c9 (rdOf ByteArray.empty a1 0) 9999 b3 true _ f2.out).mono ?_); rintro e w' ⟨rfl, ⟨nd, rfl⟩⟩; refine ⟨_, rfl, ?_⟩; (try (rw [drewN_self wc]; generalize hq_ : World.drewN wc _ = wc; replace a6 : Aside0 (Kd.R Kd.string 9 wc w.heap.size (fun k_ => some k_ ≠ (.slice (some a7) a1.length a9 : Value).ownBlock) a4 b0) := ⟨by rw [← hq_]; exact (zR a6.out)⟩; replace a5 : Aside0 (Kd.R Kd.string 9 wc w.heap.size (fun k_ => some k_ ≠ (a4 : Value).ownBlock) (.slice (some a7) a1.length a9) a1) := ⟨by rw [← hq_]; exact (zR a5.out)⟩; replace a2 : Aside0 (wc.heap[b1]? = some (.cells #[.int .i64 c3, .int .i64 c4, .int .i64 c6, .slice none 0 0] 32 (0, 0))) := ⟨by rw [← hq_]; exact (zK a2.out)⟩; replace a3 : Aside0 (wc.heap[a8]? = some (.cells #[.int .i64 0, .int .i64 0, .int .i64 0, a4] 32 (0, 0))) := ⟨by rw [← hq_]; exact (zK a3.out)⟩; replace HB : Aside0 (Below w.heap.size w wc) := ⟨by rw [← hq_]; exact (zW HB.out)⟩; clear hq_)); have b6 : 0 ≤ (1 : Int) := (by omega); have b7 : 1 < (a1.length : Int) := zD; obtain ⟨d6, d7, d2⟩ := Kd.at_string (Kd.R_reads' a5.out).2.2 1 b6 b7; obtain rfl : a7 = d6 := (by injection d7); (try simp only [show (1 : Int).toNat = 1 from rfl, Nat.reduceMul, Nat.reduceEqDiff, Go.Addr.add, ↓reduceIte] at d2); have h4 : (1 < a1.length) = True := eq_true (by omega); (try rw [show ((1 : Int)).toNat = 1 from rfl] at d2); replace b6 := eq_true b6; replace b7 := eq_true b7) | ((with_reducible refine zq 152 ?_); refine zg (some 55) Tryz.func152 #[.string (rdOf ByteArray.empty a1 1), .int .i64 9999] ?_; (with_reducible refine (spec_ParseNum.calls c9 (rdOf ByteArray.empty a1 1) 9999 c0 true _ f3.out).mono ?_); rintro e w' ⟨rfl, ⟨nd, rfl⟩⟩; refine ⟨_, rfl, ?_⟩; (try (rw [drewN_self wc]; generalize hq_ : World.drewN wc _ = wc; replace a6 : Aside0 (Kd.R Kd.string 9 wc w.heap.size (fun k_ => some k_ ≠ (.slice (some a7) a1.length a9 : Value).ownBlock) a4 b0) := ⟨by rw [← hq_]; exact (zR a6.out)⟩; replace a5 : Aside0 (Kd.R Kd.string 9 wc w.heap.size (fun k_ => some k_ ≠ (a4 : Value).ownBlock) (.slice (some a7) a1.length a9) a1) := ⟨by rw [← hq_]; exact (zR a5.out)⟩; replace a2 : Aside0 (wc.heap[b1]? = some (.cells #[.int .i64 c3, .int .i64 c4, .int .i64 c6, .slice none 0 0] 32 (0, 0))) := ⟨by rw [← hq_]; exact (zK a2.out)⟩; replace a3 : Aside0 (wc.heap[a8]? = some (.cells #[.int .i64 0, .int .i64 0, .int .i64 0, a4] 32 (0, 0))) := ⟨by rw [← hq_]; exact (zK a3.out)⟩; replace HB : Aside0 (Below w.heap.size w wc) := ⟨by rw [← hq_]; exact (zW HB.out)⟩; clear hq_)); have b8 : 0 ≤ (2 : Int) := (by omega); have b9 : 2 < (a1.length : Int) := zD; obtain ⟨d8, d9, d3⟩ := Kd.at_string (Kd.R_reads' a5.out).2.2 2 b8 b9; obtain rfl : a7 = d8 := (by injection d9); (try simp only [show (2 : Int).toNat = 2 from rfl, Nat.reduceMul, Nat.reduceEqDiff, Go.Addr.add, ↓reduceIte] at d3); have h5 : (2 < a1.length) = True := eq_true (by omega); (try rw [show ((2 : Int)).toNat = 2 from rfl] at d3); replace b8 := eq_true b8; replace b9 := eq_true b9) | ((with_reducible refine zq 152 ?_); refine zg (some 62) Tryz.func152 #[.string (rdOf ByteArray.empty a1 2), .int .i64 9999] ?_; (with_reducible refine (spec_ParseNum.calls c9 (rdOf ByteArray.empty a1 2) 9999 d0 true _ f4.out).mono ?_); rintro e w' ⟨rfl, ⟨nd, rfl⟩⟩; refine ⟨_, rfl, ?_⟩; (try (rw [drewN_self wc]; generalize hq_ : World.drewN wc _ = wc; replace a6 : Aside0 (Kd.R Kd.string 9 wc w.heap.size (fun k_ => some k_ ≠ (.slice (some a7) a1.length a9 : Value).ownBlock) a4 b0) := ⟨by rw [← hq_]; exact (zR a6.out)⟩; replace a5 : Aside0 (Kd.R Kd.string 9 wc w.heap.size (fun k_ => some k_ ≠ (a4 : Value).ownBlock) (.slice (some a7) a1.length a9) a1) := ⟨by rw [← hq_]; exact (zR a5.out)⟩; replace a2 : Aside0 (wc.heap[b1]? = some (.cells #[.int .i64 c3, .int .i64 c4, .int .i64 c6, .slice none 0 0] 32 (0, 0))) := ⟨by rw [← hq_]; exact (zK a2.out)⟩; replace a3 : Aside0 (wc.heap[a8]? = some (.cells #[.int .i64 0, .int .i64 0, .int .i64 0, a4] 32 (0, 0))) := ⟨by rw [← hq_]; exact (zK a3.out)⟩; replace HB : Aside0 (Below w.heap.size w wc) := ⟨by rw [← hq_]; exact (zW HB.out)⟩; clear hq_)); have v2 := e1.out; have v3 := e0.out; obtain ⟨v4, v6, v7, v8, v9, x0, x1, x2⟩ := ze4 a3.out; obtain ⟨h6, f6, n1⟩ := Kd.R_slice a6.out; subst n1) | (go_at_call 68; (with_reducible refine (spec_VerOk.calls c9 b3 c0 d0 _ _ b0 false _ ?side1 ?side2 l1.out).mono ?_); (case side1 => refine (Kd.R_reads' (e := 9) (base := w.heap.size) (ok := fun k_ => some k_ ≠ (.slice (some a7) a1.length a9 : Value).ownBlock) (n := b0.length) (c := f6) ?_).2.2; exact (zR (Kd.R_mono (Kd.R_far (p := ⟨a8, 2, none⟩) (Kd.R_far (p := ⟨a8, 1, none⟩) (Kd.R_far (p := ⟨a8, 0, none⟩) (Kd.R_types a6.out a3.out (by decide)) (fun _ hk => hk.2) (.int .i64 b3)) (fun _ hk => hk.2) (.int .i64 c0)) (fun _ hk => hk.2) (.int .i64 d0)) (fun _ h_ => h_.1)))); (case side2 => exact (Kd.R_reads' a6.out).2.1); rintro e x3 ⟨rfl, hb⟩; replace a5 := zA (Kd.R_below (zR (Kd.R_mono (Kd.R_far (p := ⟨a8, 2, none⟩) (Kd.R_far (p := ⟨a8, 1, none⟩) (Kd.R_far (p := ⟨a8, 0, none⟩) (Kd.R_types a5.out a3.out (by decide)) (fun _ hk => hk.2) (.int .i64 b3)) (fun _ hk => hk.2) (.int .i64 c0)) (fun _ hk => hk.2) (.int .i64 d0)) (fun _ h_ => h_.1))) hb); replace a6 := zA (Kd.R_below (zR (Kd.R_mono (Kd.R_far (p := ⟨a8, 2, none⟩) (Kd.R_far (p := ⟨a8, 1, none⟩) (Kd.R_far (p := ⟨a8, 0, none⟩) (Kd.R_types a6.out a3.out (by decide)) (fun _ hk => hk.2) (.int .i64 b3)) (fun _ hk => hk.2) (.int .i64 c0)) (fun _ hk => hk.2) (.int .i64 d0)) (fun _ h_ => h_.1))) hb); replace a2 := zb a2 hb; replace a3 := zA (blk_below (g := a8) (o := .cells #[.int .i64 b3, .int .i64 c0, .int .i64 d0, .slice h6 b0.length f6] 32 (0, 0)) (by (with_reducible repeat (first | refine blk_drewN ?_ _ | refine blk_drew ?_ | refine blk_alloc ?_ _)); refine blk_put (cs := #[.int .i64 b3, .int .i64 c0, .int .i64 0, .slice h6 b0.length f6]) ?_ 2 _ rfl; (with_reducible repeat (first | refine blk_drewN ?_ _ | refine blk_drew ?_ | refine blk_alloc ?_ _)); refine blk_put (cs := #[.int .i64 b3, .int .i64 0, .int .i64 0, .slice h6 b0.length f6]) ?_ 1 _ rfl; (with_reducible repeat (first | refine blk_drewN ?_ _ | refine blk_drew ?_ | refine blk_alloc ?_ _)); refine blk_put (cs := #[.int .i64 0, .int .i64 0, .int .i64 0, .slice h6 b0.length f6]) ?_ 0 _ rfl; (with_reducible repeat (first | refine blk_drewN ?_ _ | refine blk_drew ?_ | refine blk_alloc ?_ _)); exact a3.out) hb); replace HB := zh HB hb; (try clear hb); obtain ⟨x4, x5, x6, x7, x8, x9, y0, y1⟩ := ze4 a2.out))
           refine bodyPost_ret (results_ct rfl _ _ b1 32 #[.int .i64 0, .int .i64 0, .int .i64 0, .slice none 0 0] (0, 0) _ rfl (zk4 a2.out) Tryz.underlying32 rfl (by kernel_rfl)) rfl ?_
           exact ⟨_, zE, by first | exact Kd.R_nil _ _ _ _ _ | exact Kd.N_nil _ _ _ _ _ | exact Kd.V_nil _ _ _ _ _ | exact Kd.Q_nil _ _ _ _ _ | exact Kd.S_nil _ _ _ _ _, zW HB.out⟩
         ·simp only [Option.some.injEq, Prod.mk.injEq] at H
          obtain ⟨rfl, rfl, rfl, rfl, rfl⟩ := H
          have b4 : 0 ≤ (0 : Int) := (by omega)
          have b5 : 0 < (a1.length : Int) := zD
          obtain ⟨a7, d5, d1⟩ := Kd.at_string (Kd.R_reads' a5.out).2.2 0 b4 b5
          cases d5
          have h3 : (0 < a1.length) = True := eq_true (by omega)
          (try rw [show ((0 : Int)).toNat = 0 from rfl] at d1)
          (try rw [Addr.add_zero'] at d1)
          replace b4 := eq_true b4
          replace b5 := eq_true b5
          go_wp2_with (first | ((with_reducible refine zq 152 ?_); refine zg (some 48) Tryz.func152 #[.string (rdOf ByteArray.empty a1 0), .int .i64 9999] ?_; (with_reducible refine (spec_ParseNum.calls c9 (rdOf ByteArray.empty a1 0) 9999 b3 true _ f2.out).mono ?_); rintro e w' ⟨rfl, ⟨nd, rfl⟩⟩; refine ⟨_, rfl, ?_⟩; (try (rw [drewN_self wc]; generalize hq_ : World.drewN wc _ = wc; replace a6 : Aside0 (Kd.R Kd.string 9 wc w.heap.size (fun k_ => some k_ ≠ (.slice (some a7) a1.length a9 : Value).ownBlock) a4 b0) := ⟨by rw [← hq_]; exact (zR a6.out)⟩; replace a5 : Aside0 (Kd.R Kd.string 9 wc w.heap.size (fun k_ => some k_ ≠ (a4 : Value).ownBlock) (.slice (some a7) a1.length a9) a1) := ⟨by rw [← hq_]; exact (zR a5.out)⟩; replace a2 : Aside0 (wc.heap[b1]? = some (.cells #[.int .i64 c3, .int .i64 c4, .int .i64 c6, .slice none 0 0] 32 (0, 0))) := ⟨by rw [← hq_]; exact (zK a2.out)⟩; replace a3 : Aside0 (wc.heap[a8]? = some (.cells #[.int .i64 0, .int .i64 0, .int .i64 0, a4] 32 (0, 0))) := ⟨by rw [← hq_]; exact (zK a3.out)⟩; replace HB : Aside0 (Below w.heap.size w wc) := ⟨by rw [← hq_]; exact (zW HB.out)⟩; clear hq_)); have b6 : 0 ≤ (1 : Int) := (by omega); have b7 : 1 < (a1.length : Int) := zD; obtain ⟨d6, d7, d2⟩ := Kd.at_string (Kd.R_reads' a5.out).2.2 1 b6 b7; obtain rfl : a7 = d6 := (by injection d7); (try simp only [show (1 : Int).toNat = 1 from rfl, Nat.reduceMul, Nat.reduceEqDiff, Go.Addr.add, ↓reduceIte] at d2); have h4 : (1 < a1.length) = True := eq_true (by omega); (try rw [show ((1 : Int)).toNat = 1 from rfl] at d2); replace b6 := eq_true b6; replace b7 := eq_true b7) | ((with_reducible refine zq 152 ?_); refine zg (some 55) Tryz.func152 #[.string (rdOf ByteArray.empty a1 1), .int .i64 9999] ?_; (with_reducible refine (spec_ParseNum.calls c9 (rdOf ByteArray.empty a1 1) 9999 c0 true _ f3.out).mono ?_); rintro e w' ⟨rfl, ⟨nd, rfl⟩⟩; refine ⟨_, rfl, ?_⟩; (try (rw [drewN_self wc]; generalize hq_ : World.drewN wc _ = wc; replace a6 : Aside0 (Kd.R Kd.string 9 wc w.heap.size (fun k_ => some k_ ≠ (.slice (some a7) a1.length a9 : Value).ownBlock) a4 b0) := ⟨by rw [← hq_]; exact (zR a6.out)⟩; replace a5 : Aside0 (Kd.R Kd.string 9 wc w.heap.size (fun k_ => some k_ ≠ (a4 : Value).ownBlock) (.slice (some a7) a1.length a9) a1) := ⟨by rw [← hq_]; exact (zR a5.out)⟩; replace a2 : Aside0 (wc.heap[b1]? = some (.cells #[.int .i64 c3, .int .i64 c4, .int .i64 c6, .slice none 0 0] 32 (0, 0))) := ⟨by rw [← hq_]; exact (zK a2.out)⟩; replace a3 : Aside0 (wc.heap[a8]? = some (.cells #[.int .i64 0, .int .i64 0, .int .i64 0, a4] 32 (0, 0))) := ⟨by rw [← hq_]; exact (zK a3.out)⟩; replace HB : Aside0 (Below w.heap.size w wc) := ⟨by rw [← hq_]; exact (zW HB.out)⟩; clear hq_)); have b8 : 0 ≤ (2 : Int) := (by omega); have b9 : 2 < (a1.length : Int) := zD; obtain ⟨d8, d9, d3⟩ := Kd.at_string (Kd.R_reads' a5.out).2.2 2 b8 b9; obtain rfl : a7 = d8 := (by injection d9); (try simp only [show (2 : Int).toNat = 2 from rfl, Nat.reduceMul, Nat.reduceEqDiff, Go.Addr.add, ↓reduceIte] at d3); have h5 : (2 < a1.length) = True := eq_true (by omega); (try rw [show ((2 : Int)).toNat = 2 from rfl] at d3); replace b8 := eq_true b8; replace b9 := eq_true b9) | ((with_reducible refine zq 152 ?_); refine zg (some 62) Tryz.func152 #[.string (rdOf ByteArray.empty a1 2), .int .i64 9999] ?_; (with_reducible refine (spec_ParseNum.calls c9 (rdOf ByteArray.empty a1 2) 9999 d0 false _ f4.out).mono ?_); rintro e w' ⟨rfl, ⟨nd, rfl⟩⟩; refine ⟨_, rfl, ?_⟩; (try (rw [drewN_self wc]; generalize hq_ : World.drewN wc _ = wc; replace a6 : Aside0 (Kd.R Kd.string 9 wc w.heap.size (fun k_ => some k_ ≠ (.slice (some a7) a1.length a9 : Value).ownBlock) a4 b0) := ⟨by rw [← hq_]; exact (zR a6.out)⟩; replace a5 : Aside0 (Kd.R Kd.string 9 wc w.heap.size (fun k_ => some k_ ≠ (a4 : Value).ownBlock) (.slice (some a7) a1.length a9) a1) := ⟨by rw [← hq_]; exact (zR a5.out)⟩; replace a2 : Aside0 (wc.heap[b1]? = some (.cells #[.int .i64 c3, .int .i64 c4, .int .i64 c6, .slice none 0 0] 32 (0, 0))) := ⟨by rw [← hq_]; exact (zK a2.out)⟩; replace a3 : Aside0 (wc.heap[a8]? = some (.cells #[.int .i64 0, .int .i64 0, .int .i64 0, a4] 32 (0, 0))) := ⟨by rw [← hq_]; exact (zK a3.out)⟩; replace HB : Aside0 (Below w.heap.size w wc) := ⟨by rw [← hq_]; exact (zW HB.out)⟩; clear hq_)); have y2 := e1.out; have y3 := e0.out; obtain ⟨y4, y5, y6, y7, y8, y9, z0, z1⟩ := ze4 a3.out; obtain ⟨z2, z3, z4, z5, z6, z7, z8, z9⟩ := ze4 a2.out))
          refine bodyPost_ret (results_ct rfl _ _ b1 32 #[.int .i64 0, .int .i64 0, .int .i64 0, .slice none 0 0] (0, 0) _ rfl (zk4 a2.out) Tryz.underlying32 rfl (by kernel_rfl)) rfl ?_
          exact ⟨_, zE, by first | exact Kd.R_nil _ _ _ _ _ | exact Kd.N_nil _ _ _ _ _ | exact Kd.V_nil _ _ _ _ _ | exact Kd.Q_nil _ _ _ _ _ | exact Kd.S_nil _ _ _ _ _, zW HB.out⟩
        ·simp only [Option.some.injEq, Prod.mk.injEq] at H
         obtain ⟨rfl, rfl, rfl, rfl, rfl⟩ := H
         have b4 : 0 ≤ (0 : Int) := (by omega)
         have b5 : 0 < (a1.length : Int) := zD
         obtain ⟨a7, d5, d1⟩ := Kd.at_string (Kd.R_reads' a5.out).2.2 0 b4 b5
         cases d5
         have h3 : (0 < a1.length) = True := eq_true (by omega)
         (try rw [show ((0 : Int)).toNat = 0 from rfl] at d1)
         (try rw [Addr.add_zero'] at d1)
         replace b4 := eq_true b4
         replace b5 := eq_true b5
         go_wp2_with (first | ((with_reducible refine zq 152 ?_); refine zg (some 48) Tryz.func152 #[.string (rdOf ByteArray.empty a1 0), .int .i64 9999] ?_; (with_reducible refine (spec_ParseNum.calls c9 (rdOf ByteArray.empty a1 0) 9999 b3 true _ f2.out).mono ?_); rintro e w' ⟨rfl, ⟨nd, rfl⟩⟩; refine ⟨_, rfl, ?_⟩; (try (rw [drewN_self wc]; generalize hq_ : World.drewN wc _ = wc; replace a6 : Aside0 (Kd.R Kd.string 9 wc w.heap.size (fun k_ => some k_ ≠ (.slice (some a7) a1.length a9 : Value).ownBlock) a4 b0) := ⟨by rw [← hq_]; exact (zR a6.out)⟩; replace a5 : Aside0 (Kd.R Kd.string 9 wc w.heap.size (fun k_ => some k_ ≠ (a4 : Value).ownBlock) (.slice (some a7) a1.length a9) a1) := ⟨by rw [← hq_]; exact (zR a5.out)⟩; replace a2 : Aside0 (wc.heap[b1]? = some (.cells #[.int .i64 c3, .int .i64 c4, .int .i64 c6, .slice none 0 0] 32 (0, 0))) := ⟨by rw [← hq_]; exact (zK a2.out)⟩; replace a3 : Aside0 (wc.heap[a8]? = some (.cells #[.int .i64 0, .int .i64 0, .int .i64 0, a4] 32 (0, 0))) := ⟨by rw [← hq_]; exact (zK a3.out)⟩; replace HB : Aside0 (Below w.heap.size w wc) := ⟨by rw [← hq_]; exact (zW HB.out)⟩; clear hq_)); have b6 : 0 ≤ (1 : Int) := (by omega); have b7 : 1 < (a1.length : Int) := zD; obtain ⟨d6, d7, d2⟩ := Kd.at_string (Kd.R_reads' a5.out).2.2 1 b6 b7; obtain rfl : a7 = d6 := (by injection d7); (try simp only [show (1 : Int).toNat = 1 from rfl, Nat.reduceMul, Nat.reduceEqDiff, Go.Addr.add, ↓reduceIte] at d2); have h4 : (1 < a1.length) = True := eq_true (by omega); (try rw [show ((1 : Int)).toNat = 1 from rfl] at d2); replace b6 := eq_true b6; replace b7 := eq_true b7) | ((with_reducible refine zq 152 ?_); refine zg (some 55) Tryz.func152 #[.string (rdOf ByteArray.empty a1 1), .int .i64 9999] ?_; (with_reducible refine (spec_ParseNum.calls c9 (rdOf ByteArray.empty a1 1) 9999 c0 false _ f3.out).mono ?_); rintro e w' ⟨rfl, ⟨nd, rfl⟩⟩; refine ⟨_, rfl, ?_⟩; (try (rw [drewN_self wc]; generalize hq_ : World.drewN wc _ = wc; replace a6 : Aside0 (Kd.R Kd.string 9 wc w.heap.size (fun k_ => some k_ ≠ (.slice (some a7) a1.length a9 : Value).ownBlock) a4 b0) := ⟨by rw [← hq_]; exact (zR a6.out)⟩; replace a5 : Aside0 (Kd.R Kd.string 9 wc w.heap.size (fun k_ => some k_ ≠ (a4 : Value).ownBlock) (.slice (some a7) a1.length a9) a1) := ⟨by rw [← hq_]; exact (zR a5.out)⟩; replace a2 : Aside0 (wc.heap[b1]? = some (.cells #[.int .i64 c3, .int .i64 c4, .int .i64 c6, .slice none 0 0] 32 (0, 0))) := ⟨by rw [← hq_]; exact (zK a2.out)⟩; replace a3 : Aside0 (wc.heap[a8]? = some (.cells #[.int .i64 0, .int .i64 0, .int .i64 0, a4] 32 (0, 0))) := ⟨by rw [← hq_]; exact (zK a3.out)⟩; replace HB : Aside0 (Below w.heap.size w wc) := ⟨by rw [← hq_]; exact (zW HB.out)⟩; clear hq_)); have b8 : 0 ≤ (2 : Int) := (by omega); have b9 : 2 < (a1.length : Int) := zD; obtain ⟨d8, d9, d3⟩ := Kd.at_string (Kd.R_reads' a5.out).2.2 2 b8 b9; obtain rfl : a7 = d8 := (by injection d9); (try simp only [show (2 : Int).toNat = 2 from rfl, Nat.reduceMul, Nat.reduceEqDiff, Go.Addr.add, ↓reduceIte] at d3); have h5 : (2 < a1.length) = True := eq_true (by omega); (try rw [show ((2 : Int)).toNat = 2 from rfl] at d3); replace b8 := eq_true b8; replace b9 := eq_true b9) | ((with_reducible refine zq 152 ?_); refine zg (some 62) Tryz.func152 #[.string (rdOf ByteArray.empty a1 2), .int .i64 9999] ?_; (with_reducible refine (spec_ParseNum.calls c9 (rdOf ByteArray.empty a1 2) 9999 d0 k9 _ f4.out).mono ?_); rintro e w' ⟨rfl, ⟨nd, rfl⟩⟩; refine ⟨_, rfl, ?_⟩; (try (rw [drewN_self wc]; generalize hq_ : World.drewN wc _ = wc; replace a6 : Aside0 (Kd.R Kd.string 9 wc w.heap.size (fun k_ => some k_ ≠ (.slice (some a7) a1.length a9 : Value).ownBlock) a4 b0) := ⟨by rw [← hq_]; exact (zR a6.out)⟩; replace a5 : Aside0 (Kd.R Kd.string 9 wc w.heap.size (fun k_ => some k_ ≠ (a4 : Value).ownBlock) (.slice (some a7) a1.length a9) a1) := ⟨by rw [← hq_]; exact (zR a5.out)⟩; replace a2 : Aside0 (wc.heap[b1]? = some (.cells #[.int .i64 c3, .int .i64 c4, .int .i64 c6, .slice none 0 0] 32 (0, 0))) := ⟨by rw [← hq_]; exact (zK a2.out)⟩; replace a3 : Aside0 (wc.heap[a8]? = some (.cells #[.int .i64 0, .int .i64 0, .int .i64 0, a4] 32 (0, 0))) := ⟨by rw [← hq_]; exact (zK a3.out)⟩; replace HB : Aside0 (Below w.heap.size w wc) := ⟨by rw [← hq_]; exact (zW HB.out)⟩; clear hq_)); have A0 := e1.out; have A1 := e0.out; obtain ⟨A2, A3, A4, A5, A6, A7, A8, A9⟩ := ze4 a3.out; obtain ⟨B0, B1, B2, B3, B4, B5, B6, B7⟩ := ze4 a2.out))
         refine bodyPost_ret (results_ct rfl _ _ b1 32 #[.int .i64 0, .int .i64 0, .int .i64 0, .slice none 0 0] (0, 0) _ rfl (zk4 a2.out) Tryz.underlying32 rfl (by kernel_rfl)) rfl ?_
         exact ⟨_, zE, by first | exact Kd.R_nil _ _ _ _ _ | exact Kd.N_nil _ _ _ _ _ | exact Kd.V_nil _ _ _ _ _ | exact Kd.Q_nil _ _ _ _ _ | exact Kd.S_nil _ _ _ _ _, zW HB.out⟩
       ·simp only [Option.some.injEq, Prod.mk.injEq] at H
        obtain ⟨rfl, rfl, rfl, rfl, rfl⟩ := H
        have b4 : 0 ≤ (0 : Int) := (by omega)
        have b5 : 0 < (a1.length : Int) := zD
        obtain ⟨a7, d5, d1⟩ := Kd.at_string (Kd.R_reads' a5.out).2.2 0 b4 b5
        cases d5
        have h3 : (0 < a1.length) = True := eq_true (by omega)
        (try rw [show ((0 : Int)).toNat = 0 from rfl] at d1)
        (try rw [Addr.add_zero'] at d1)
        replace b4 := eq_true b4
        replace b5 := eq_true b5
        go_wp2_with (first | ((with_reducible refine zq 152 ?_); refine zg (some 48) Tryz.func152 #[.string (rdOf ByteArray.empty a1 0), .int .i64 9999] ?_; (with_reducible refine (spec_ParseNum.calls c9 (rdOf ByteArray.empty a1 0) 9999 b3 false _ f2.out).mono ?_); rintro e w' ⟨rfl, ⟨nd, rfl⟩⟩; refine ⟨_, rfl, ?_⟩; (try (rw [drewN_self wc]; generalize hq_ : World.drewN wc _ = wc; replace a6 : Aside0 (Kd.R Kd.string 9 wc w.heap.size (fun k_ => some k_ ≠ (.slice (some a7) a1.length a9 : Value).ownBlock) a4 b0) := ⟨by rw [← hq_]; exact (zR a6.out)⟩; replace a5 : Aside0 (Kd.R Kd.string 9 wc w.heap.size (fun k_ => some k_ ≠ (a4 : Value).ownBlock) (.slice (some a7) a1.length a9) a1) := ⟨by rw [← hq_]; exact (zR a5.out)⟩; replace a2 : Aside0 (wc.heap[b1]? = some (.cells #[.int .i64 c3, .int .i64 c4, .int .i64 c6, .slice none 0 0] 32 (0, 0))) := ⟨by rw [← hq_]; exact (zK a2.out)⟩; replace a3 : Aside0 (wc.heap[a8]? = some (.cells #[.int .i64 0, .int .i64 0, .int .i64 0, a4] 32 (0, 0))) := ⟨by rw [← hq_]; exact (zK a3.out)⟩; replace HB : Aside0 (Below w.heap.size w wc) := ⟨by rw [← hq_]; exact (zW HB.out)⟩; clear hq_)); have b6 : 0 ≤ (1 : Int) := (by omega); have b7 : 1 < (a1.length : Int) := zD; obtain ⟨d6, d7, d2⟩ := Kd.at_string (Kd.R_reads' a5.out).2.2 1 b6 b7; obtain rfl : a7 = d6 := (by injection d7); (try simp only [show (1 : Int).toNat = 1 from rfl, Nat.reduceMul, Nat.reduceEqDiff, Go.Addr.add, ↓reduceIte] at d2); have h4 : (1 < a1.length) = True := eq_true (by omega); (try rw [show ((1 : Int)).toNat = 1 from rfl] at d2); replace b6 := eq_true b6; replace b7 := eq_true b7) | ((with_reducible refine zq 152 ?_); refine zg (some 55) Tryz.func152 #[.string (rdOf ByteArray.empty a1 1), .int .i64 9999] ?_; (with_reducible refine (spec_ParseNum.calls c9 (rdOf ByteArray.empty a1 1) 9999 c0 m9 _ f3.out).mono ?_); rintro e w' ⟨rfl, ⟨nd, rfl⟩⟩; refine ⟨_, rfl, ?_⟩; (try (rw [drewN_self wc]; generalize hq_ : World.drewN wc _ = wc; replace a6 : Aside0 (Kd.R Kd.string 9 wc w.heap.size (fun k_ => some k_ ≠ (.slice (some a7) a1.length a9 : Value).ownBlock) a4 b0) := ⟨by rw [← hq_]; exact (zR a6.out)⟩; replace a5 : Aside0 (Kd.R Kd.string 9 wc w.heap.size (fun k_ => some k_ ≠ (a4 : Value).ownBlock) (.slice (some a7) a1.length a9) a1) := ⟨by rw [← hq_]; exact (zR a5.out)⟩; replace a2 : Aside0 (wc.heap[b1]? = some (.cells #[.int .i64 c3, .int .i64 c4, .int .i64 c6, .slice none 0 0] 32 (0, 0))) := ⟨by rw [← hq_]; exact (zK a2.out)⟩; replace a3 : Aside0 (wc.heap[a8]? = some (.cells #[.int .i64 0, .int .i64 0, .int .i64 0, a4] 32 (0, 0))) := ⟨by rw [← hq_]; exact (zK a3.out)⟩; replace HB : Aside0 (Below w.heap.size w wc) := ⟨by rw [← hq_]; exact (zW HB.out)⟩; clear hq_)); have b8 : 0 ≤ (2 : Int) := (by omega); have b9 : 2 < (a1.length : Int) := zD; obtain ⟨d8, d9, d3⟩ := Kd.at_string (Kd.R_reads' a5.out).2.2 2 b8 b9; obtain rfl : a7 = d8 := (by injection d9); (try simp only [show (2 : Int).toNat = 2 from rfl, Nat.reduceMul, Nat.reduceEqDiff, Go.Addr.add, ↓reduceIte] at d3); have h5 : (2 < a1.length) = True := eq_true (by omega); (try rw [show ((2 : Int)).toNat = 2 from rfl] at d3); replace b8 := eq_true b8; replace b9 := eq_true b9) | ((with_reducible refine zq 152 ?_); refine zg (some 62) Tryz.func152 #[.string (rdOf ByteArray.empty a1 2), .int .i64 9999] ?_; (with_reducible refine (spec_ParseNum.calls c9 (rdOf ByteArray.empty a1 2) 9999 d0 k9 _ f4.out).mono ?_); rintro e w' ⟨rfl, ⟨nd, rfl⟩⟩; refine ⟨_, rfl, ?_⟩; (try (rw [drewN_self wc]; generalize hq_ : World.drewN wc _ = wc; replace a6 : Aside0 (Kd.R Kd.string 9 wc w.heap.size (fun k_ => some k_ ≠ (.slice (some a7) a1.length a9 : Value).ownBlock) a4 b0) := ⟨by rw [← hq_]; exact (zR a6.out)⟩; replace a5 : Aside0 (Kd.R Kd.string 9 wc w.heap.size (fun k_ => some k_ ≠ (a4 : Value).ownBlock) (.slice (some a7) a1.length a9) a1) := ⟨by rw [← hq_]; exact (zR a5.out)⟩; replace a2 : Aside0 (wc.heap[b1]? = some (.cells #[.int .i64 c3, .int .i64 c4, .int .i64 c6, .slice none 0 0] 32 (0, 0))) := ⟨by rw [← hq_]; exact (zK a2.out)⟩; replace a3 : Aside0 (wc.heap[a8]? = some (.cells #[.int .i64 0, .int .i64 0, .int .i64 0, a4] 32 (0, 0))) := ⟨by rw [← hq_]; exact (zK a3.out)⟩; replace HB : Aside0 (Below w.heap.size w wc) := ⟨by rw [← hq_]; exact (zW HB.out)⟩; clear hq_)); have B8 := e1.out; have B9 := e0.out; obtain ⟨C0, C1, C2, C3, C4, C5, C6, C7⟩ := ze4 a3.out; obtain ⟨C8, C9, D0, D1, D2, D3, D4, D5⟩ := ze4 a2.out))
        refine bodyPost_ret (results_ct rfl _ _ b1 32 #[.int .i64 0, .int .i64 0, .int .i64 0, .slice none 0 0] (0, 0) _ rfl (zk4 a2.out) Tryz.underlying32 rfl (by kernel_rfl)) rfl ?_
        exact ⟨_, zE, by first | exact Kd.R_nil _ _ _ _ _ | exact Kd.N_nil _ _ _ _ _ | exact Kd.V_nil _ _ _ _ _ | exact Kd.Q_nil _ _ _ _ _ | exact Kd.S_nil _ _ _ _ _, zW HB.out⟩
end Go.Proofs.YtpcdhoeoefoeoaaGreatDoor.PGC
