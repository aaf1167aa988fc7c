/- The walks of the functions that these laws reach, and what each comes to: printed by this session's program. -/
import Derived.Deep.CutBlock
import Derived.Test.YtpcdhoeoefoeoaaGreatDoorZGEPGEx0
import Derived.Test.YtpcdhoeoefoeoaaGreatDoorZGEPGEx1
import Derived.Test.YtpcdhoeoefoeoaaGreatDoorZGESays
import Derived.Test.YtpcdhoeoefoeoaaGreatDoorZGERegs
namespace Go.Proofs.YtpcdhoeoefoeoaaGreatDoor.PGE
open Go.RowKit YtpcdhoeoefoeoaaGreatDoorW.PrintWords YtpcdhoeoefoeoaaGreatDoorW.PrintLast YtpcdhoeoefoeoaaGreatDoorW.PrintMore
attribute [local go_sem high] Mine.str_gtr Mine.str_leq Mine.str_geq
attribute [local go_sem] max2_int min2_int max_two min_two max_three min_three max_four min_four   -- for this text's walks alone
set_option linter.unusedVariables false
set_option maxHeartbeats 8000000
set_option maxRecDepth 100000
set_option linter.unusedSimpArgs false
/-! ### spec_ParseVer: function 124 -/
mutual
def spec_ParseVer.j1 : Nat → ByteArray → Int → Int → Int → Int → Option (Int × Int × Int × List ByteArray × Bool)
 | 0, _, _, _, _, _ => none
 | k + 1, x0, x5, a0, a1, a2 => if x5 < (x0.size : Int) then (if 0 ≤ (wrap64 (x5 + 1)) then (if (wrap64 (x5 + 1)) ≤ (x0.size : Int) then ((spec_Split.f k (x0.extract ((wrap64 (x5 + 1)) : Int).toNat x0.size) 46).bind fun a8 => (spec_ParseVer.j2 k x0 x5 a0 a1 a2 a8)) else (none)) else (none)) else (spec_ParseVer.j2 k x0 x5 a0 a1 a2 ([] : List ByteArray))
def spec_ParseVer.j2 : Nat → ByteArray → Int → Int → Int → Int → List ByteArray → Option (Int × Int × Int × List ByteArray × Bool)
 | 0, _, _, _, _, _, _ => none
 | k + 1, x0, x5, a0, a1, a2, a3 => if 0 ≤ x5 then (if x5 ≤ (x0.size : Int) then ((spec_Split.f k (x0.extract 0 (x5 : Int).toNat) 46).bind fun a7 => (if (a7.length : Int) = 3 then (spec_ParseVer.j3 k a7 a0 a1 a2 a3) else (some (0, 0, 0, ([] : List ByteArray), false)))) else (none)) else (none)
def spec_ParseVer.j3 : Nat → List ByteArray → Int → Int → Int → List ByteArray → Option (Int × Int × Int × List ByteArray × Bool)
 | 0, _, _, _, _, _ => none
 | k + 1, x6, a0, a1, a2, a3 => if 0 < (x6.length : Int) then ((spec_ParseNum.f k (rdOf ByteArray.empty x6 0) 9999).bind fun a4 => (if 1 < (x6.length : Int) then ((spec_ParseNum.f k (rdOf ByteArray.empty x6 1) 9999).bind fun a5 => (if 2 < (x6.length : Int) then ((spec_ParseNum.f k (rdOf ByteArray.empty x6 2) 9999).bind fun a6 => (if a4.2 = true then (if a5.2 = true then (if a6.2 = true then ((spec_VerOk.f k a4.1 a5.1 a6.1 a3).bind fun a9 => (if a9 = true then (some (a4.1, a5.1, a6.1, a3, true)) else (some (0, 0, 0, ([] : List ByteArray), false)))) else (some (0, 0, 0, ([] : List ByteArray), false))) else (some (0, 0, 0, ([] : List ByteArray), false))) else (some (0, 0, 0, ([] : List ByteArray), false)))) else (none))) else (none))) else (none)
def spec_ParseVer.l0 : Nat → ByteArray → Int → Int → Int → Int → Option (Int × Int × Int × List ByteArray × Bool)
 | 0, _, _, _, _, _ => none
 | k + 1, x0, x5, a0, a1, a2 => if x5 < (x0.size : Int) then (if 0 ≤ x5 then (if (bt x0 x5) = 45 then (spec_ParseVer.j1 k x0 x5 a0 a1 a2) else (spec_ParseVer.l0 k x0 (wrap64 (x5 + 1)) a0 a1 a2)) else (none)) else (spec_ParseVer.j1 k x0 x5 a0 a1 a2)
end
def spec_ParseVer.f (k : Nat) (a0 : ByteArray) : Option (Int × Int × Int × List ByteArray × Bool) := spec_ParseVer.l0 k a0 0 0 0 0
theorem spec_ParseVer.calls (k : Nat) (a0 : ByteArray) (r1 r2 r3 : Int) (r4 : List ByteArray) (r5 : Bool) (w : World) (h : spec_ParseVer.f k a0 = some (r1, r2, r3, r4, r5)) :
  Calls Tryz.prog 124 #[.string a0] w fun e w' => ∃ h9 : Value, e = .returned (.tuple #[.agg #[.int .i64 r1, .int .i64 r2, .int .i64 r3, h9], .bool r5]) ∧ Kd.R Kd.string 9 w' w.heap.size (fun _ => True) h9 r4 ∧ Below w.heap.size w w' := by
 have n8 := Tryz.underlying32
 have HB := zA (Below.refl w.heap.size w)
 unfold spec_ParseVer.f at h
 have H := h
 clear h
 have h4 := zA H
 clear H
 go_enter Tryz.func124, Tryz.ntmps124
 go_upto_block 0 with (first | ((with_reducible refine zd 2 ?_); refine ze 2 32 #[.int .i64 0, .int .i64 0, .int .i64 0, .slice none 0 0] ?_; intro c3 hg w3 hbox hb; have a2 := zA (hbox); have n9 := zi HB hg; have o0 := zi HB hg; replace HB := zA (below_step (zB) hb); clear hb hbox hg) | ((with_reducible refine zd 4 ?_); refine ze 4 32 #[.int .i64 0, .int .i64 0, .int .i64 0, .slice none 0 0] ?_; intro d7 hg w4 hbox hb; have a3 := zA (hbox); have o1 := zi HB hg; have o2 := zi HB hg; replace HB := zh HB hb; have d4 := zA (zL hg (zK a2.out)); have d5 := zA (zJ hg (zK a2.out)); replace a2 := zb a2 hb; clear hb hbox hg; have o3 := d5.out; have o4 := d4.out; obtain ⟨f3, f4, f5, f6, f7, f8, f9, g0⟩ := ze4 a3.out))
 (try simp only [Act.put, zT])
 go_cut [5] (fun v5 wc => ∃ (kq : Nat) (a6 : Int), v5 = .int .i64 a6 ∧ Aside0 (spec_ParseVer.j1 kq a0 a6 0 0 0 = some (r1, r2, r3, r4, r5)) ∧ Aside0 (kq ≤ k) ∧ Aside0 (wc.heap[c3]? = some (.cells #[.int .i64 0, .int .i64 0, .int .i64 0, (.slice none 0 0)] 32 (0, 0))) ∧ Aside0 (wc.heap[d7]? = some (.cells #[.int .i64 0, .int .i64 0, .int .i64 0, (.slice none 0 0)] 32 (0, 0))) ∧ Aside0 (Below w.heap.size w wc))
 case first =>
  have H := h4.out; clear h4; have H' := zA H; clear H
  go_wp2
  go_loopg [5] k (fun kq v5 w' => ∃ (a6 : Int), v5 = .int .i64 a6 ∧ Aside0 (spec_ParseVer.l0 kq a0 a6 0 0 0 = some (r1, r2, r3, r4, r5)) ∧ Aside0 (kq ≤ k) ∧ Aside0 (w'.heap[c3]? = some (.cells #[.int .i64 0, .int .i64 0, .int .i64 0, (.slice none 0 0)] 32 (0, 0))) ∧ Aside0 (w'.heap[d7]? = some (.cells #[.int .i64 0, .int .i64 0, .int .i64 0, (.slice none 0 0)] 32 (0, 0))) ∧ Aside0 (Below w.heap.size w w'))
  case atStart => exact ⟨(0), zS, H', ⟨Nat.le_refl _⟩, ⟨zK a2.out⟩, ⟨zk4 a3.out⟩, ⟨zW HB.out⟩⟩
  case round =>
   clear H'
   try clear c1
   try clear p2
   try clear c5
   try clear f3 f4 f5 f6 f7 f8 f9 g0
   obtain ⟨a6, rfl, HA, g1, a2, a3, HB⟩ := hrel
   cases gk with
   | zero => exact absurd HA.out (by simp [spec_ParseVer.l0])
   | succ k1 =>
    have H := HA.out; clear HA; simp only [spec_ParseVer.l0] at H; replace H := zI0 H
    rcases H with ⟨d6, H⟩ | ⟨d6, H⟩
    ·(first | rw [d6] | (simp only [i64_w, i32_w]; rw [d6]) | skip)
     replace H := zD0 H; obtain ⟨h5, H⟩ := H; replace H := zI1 H
     rcases H with ⟨c6, H⟩ | ⟨c6, H⟩
     ·have g2 := beq_iff_eq.mpr c6; have g3 := bne_eq_false_iff_eq.mpr c6; clear c6; have H' := zA H; clear H; have p9 : 0 ≤ (a6 : Int) := zD; have q9 : a6 < (a0.size : Int) := zD; have g4 := bt_at a0 a6; replace p9 := eq_true p9; replace q9 := eq_true q9
      go_wp2
      go_meet
      case rel => exact ⟨_, (a6), zS, (by first | exact H' | (subst_vars; exact H')), ⟨by have := g1.out; first | omega | exact Nat.le_refl _⟩, ⟨zK a2.out⟩, ⟨zK a3.out⟩, ⟨zW HB.out⟩⟩
     have g2 := beq_eq_false_iff_ne.mpr c6; have g3 := bne_iff_ne.mpr c6; have H' := zA H; clear H; have p9 : 0 ≤ (a6 : Int) := zD; have q9 : a6 < (a0.size : Int) := zD; have g4 := bt_at a0 a6; replace p9 := eq_true p9; replace q9 := eq_true q9
     go_wp2
     go_roundg k1
     case measure => have := g1.out; omega
     case rel => exact ⟨(wrap64 (a6 + 1)), zS, H', ⟨by have := g1.out; omega⟩, ⟨zK a2.out⟩, ⟨zK a3.out⟩, ⟨zW HB.out⟩⟩
    (first | rw [d6] | (simp only [i64_w, i32_w]; rw [d6]) | skip)
    have H' := zA H; clear H
    go_wp2
    go_meet
    case rel => exact ⟨_, (a6), zS, (by first | exact H' | (subst_vars; exact H')), ⟨by have := g1.out; first | omega | exact Nat.le_refl _⟩, ⟨zK a2.out⟩, ⟨zK a3.out⟩, ⟨zW HB.out⟩⟩
 case rest =>
  clear h4
  try clear c1
  try clear p2
  try clear c5
  try clear p6
  try clear c7
  try clear d6
  try clear c8
  try clear h5
  try clear p9
  try clear q9
  try clear g4
  try clear c6
  try clear g2
  try clear g3
  try clear f3 f4 f5 f6 f7 f8 f9 g0
  try clear p2
  try clear p9
  try clear q9
  obtain ⟨kq, a6, rfl, HA, h6, a2, a3, HB⟩ := hcut
  cases kq with
  | zero => exact absurd HA.out (by simp [spec_ParseVer.j1])
  | succ g5 =>
   have H := HA.out; clear HA; simp only [spec_ParseVer.j1] at H; have h7 := zA H; clear H
   go_upto_if 29 with (fail)
   go_cut [] (fun wc => ∃ (kq : Nat) (b3 : List ByteArray) (e0 : Value), Aside0 (spec_ParseVer.j2 kq a0 a6 0 0 0 b3 = some (r1, r2, r3, r4, r5)) ∧ Aside0 (kq ≤ g5) ∧ Aside0 (Kd.R Kd.string 9 wc w.heap.size (fun _ => True) e0 b3) ∧ Aside0 (wc.heap[c3]? = some (.cells #[.int .i64 0, .int .i64 0, .int .i64 0, (.slice none 0 0)] 32 (0, 0))) ∧ Aside0 (wc.heap[d7]? = some (.cells #[.int .i64 0, .int .i64 0, .int .i64 0, e0] 32 (0, 0))) ∧ Aside0 (Below w.heap.size w wc))
   case first =>
    have H := h7.out; clear h7; replace H := zI0 H
    rcases H with ⟨d8, H⟩ | ⟨d8, H⟩
    ·(first | rw [d8] | (simp only [i64_w, i32_w]; rw [d8]) | skip)
     obtain ⟨e1, g6⟩ : ∃ j_ : Int, (wrap64 (a6 + 1)) = j_ := ⟨_, rfl⟩
     replace H : (if 0 ≤ (e1) then (if (e1) ≤ (a0.size : Int) then ((spec_Split.f g5 (a0.extract ((e1) : Int).toNat a0.size) 46).bind fun e2 => (spec_ParseVer.j2 g5 a0 a6 0 0 0 e2)) else (none)) else (none)) = some (r1, r2, r3, r4, r5) := by first | (rw [g6] at H; exact H) | (simp only [g6] at H ⊢; exact H)
     have hji13w : (IntKind.i64.wrap (a6 + 1)) = e1 := (i64_w _).trans g6; replace H := zC0 H; obtain ⟨e6, H⟩ := H; have i0 := eq_true e6; have i1 := decide_eq_true e6; clear e6; replace H := zC0 H; obtain ⟨e7, H⟩ := H; have i2 := eq_true e7; have i3 := decide_eq_true e7; clear e7; replace H := Option.bind_eq_some_iff.mp H; obtain ⟨e2, i4, H⟩ := H
     try dsimp only at H
     have l8 := zA i4; clear i4; have H' := zA H; clear H
     go_wp2_with (first | ((with_reducible refine gate_callee (f := 78) rfl ?_); refine goesL_ (some 34) rfl rfl Tryz.func78 (by kernel_rfl) rfl #[.string (a0.extract ((e1) : Int).toNat a0.size), .int .u8 46] rfl (by (try simp only [List.map_toArray, List.map_cons, List.map_nil]); first | done | (simp only [g6]; rfl) | rfl | (simp only [List.length_drop, List.length_take]; rfl)) ?_; (with_reducible refine (spec_Split.calls g5 (a0.extract ((e1) : Int).toNat a0.size) 46 e2 _ l8.out).mono ?_); rintro e o5 ⟨o6, rfl, e3, hb⟩; refine ⟨_, rfl, ?_⟩; have i5 := zA (Kd.R_lower e3 (below_size (zW HB.out))); replace a2 := zb a2 hb; replace a3 := zb a3 hb; replace HB := zh HB hb; (try clear hb e3); obtain ⟨i6, i7, l9⟩ := Kd.R_slice i5.out; subst l9; have o7 := d5.out; have o8 := d4.out; obtain ⟨i8, i9, j0, j4, j5, j6, j7, j8⟩ := ze4 a3.out))
     go_meet
     case rel => exact ⟨_, (e2), (.slice i6 e2.length i7), (by first | exact H' | (subst_vars; exact H')), ⟨by have := h6.out; first | omega | exact Nat.le_refl _⟩, ⟨zR (Kd.R_mono (Kd.R_far (p := ⟨d7, 3, none⟩) (Kd.R_types i5.out a3.out (by decide)) (fun _ hk => hk.2) (.slice i6 e2.length i7)) (fun _ hk => trivial))⟩, ⟨zK a2.out⟩, ⟨by (with_reducible repeat (first | refine blk_drewN ?_ _ | refine blk_drew ?_ | refine blk_alloc ?_ _)); refine blk_put (cs := #[.int .i64 0, .int .i64 0, .int .i64 0, .slice none 0 0]) ?_ 3 _ rfl; (with_reducible repeat (first | refine blk_drewN ?_ _ | refine blk_drew ?_ | refine blk_alloc ?_ _)); exact a3.out⟩, ⟨zW HB.out⟩⟩
    (first | rw [d8] | (simp only [i64_w, i32_w]; rw [d8]) | skip)
    have H' := zA H; clear H
    go_wp2
    go_meet
    case rel => exact ⟨_, (([] : List ByteArray)), (.slice none 0 0), (by first | exact H' | (subst_vars; exact H')), ⟨by have := h6.out; first | omega | exact Nat.le_refl _⟩, ⟨by first | exact Kd.R_nil _ _ _ _ _ | exact Kd.N_nil _ _ _ _ _ | exact Kd.V_nil _ _ _ _ _ | exact Kd.Q_nil _ _ _ _ _ | exact Kd.S_nil _ _ _ _ _⟩, ⟨zK a2.out⟩, ⟨zK a3.out⟩, ⟨zW HB.out⟩⟩
   case rest =>
    clear h7
    try clear c1
    try clear p2
    try clear c5
    try clear p6
    try clear c7
    try clear d6
    try clear c8
    try clear h5
    try clear p9
    try clear q9
    try clear g4
    try clear c6
    try clear g2
    try clear g3
    try clear c12
    try clear d8
    try clear e6
    try clear i0
    try clear i1
    try clear e7
    try clear i2
    try clear i3
    try clear c19
    try clear i8 i9 j0 j4 j5 j6 j7 j8
    try clear f3 f4 f5 f6 f7 f8 f9 g0
    try clear p2
    try clear p6
    try clear p9
    try clear q9
    obtain ⟨kq, b3, e0, HA, m0, a5, a2, a3, HB⟩ := hcut
    cases kq with
    | zero => exact absurd HA.out (by simp [spec_ParseVer.j2])
    | succ j9 =>
     have H := HA.out; clear HA; simp only [spec_ParseVer.j2] at H; replace H := zC0 H; obtain ⟨g7, H⟩ := H; have m1 := eq_true g7; have m2 := decide_eq_true g7; clear g7; replace H := zC0 H; obtain ⟨g8, H⟩ := H; have m3 := eq_true g8; have m4 := decide_eq_true g8; clear g8; replace H := Option.bind_eq_some_iff.mp H; obtain ⟨a1, k0, H⟩ := H
     try dsimp only at H
     have m5 := zA k0; clear k0; have h8 := zA H; clear H
     go_upto_if 42 with (first | ((with_reducible refine zq 78 ?_); refine zg (some 39) Tryz.func78 #[.string (a0.extract 0 (a6 : Int).toNat), .int .u8 46] ?_; (with_reducible refine (spec_Split.calls j9 (a0.extract 0 (a6 : Int).toNat) 46 a1 _ m5.out).mono ?_); rintro e o9 ⟨p0, rfl, e3, hb⟩; refine ⟨_, rfl, ?_⟩; have k2 := zA (Kd.R_lower (Kd.R_new' e3 (Kd.R_lt (zR a5.out))) (below_size (zW HB.out))); replace a5 := zA (Kd.R_elder' (zR a5.out) (Kd.R_base e3) hb); replace a2 := zb a2 hb; replace a3 := zb a3 hb; replace HB := zh HB hb; (try clear hb e3); obtain ⟨k3, g9, m6⟩ := Kd.R_slice k2.out; subst m6))
     (try simp only [Act.put, zT])
     go_cut [] (fun wc => ∃ (kq : Nat) (k4 : Int) (k5 : Int) (k6 : Int), Aside0 (spec_ParseVer.j3 kq a1 0 0 0 b3 = some (r1, r2, r3, r4, r5)) ∧ Aside0 (kq ≤ j9) ∧ Aside0 (Kd.R Kd.string 9 wc w.heap.size (fun k_ => some k_ ≠ (e0 : Value).ownBlock) (.slice k3 a1.length g9) a1) ∧ Aside0 (Kd.R Kd.string 9 wc w.heap.size (fun k_ => some k_ ≠ ((.slice k3 a1.length g9) : Value).ownBlock) e0 b3) ∧ Aside0 (wc.heap[c3]? = some (.cells #[.int .i64 k4, .int .i64 k5, .int .i64 k6, (.slice none 0 0)] 32 (0, 0))) ∧ Aside0 (wc.heap[d7]? = some (.cells #[.int .i64 0, .int .i64 0, .int .i64 0, e0] 32 (0, 0))) ∧ Aside0 (Below w.heap.size w wc))
     case first =>
      have H := h8.out; clear h8; replace H := zI1 H
      rcases H with ⟨d9, H⟩ | ⟨d9, H⟩
      ·have e4 := beq_iff_eq.mpr d9; have k7 := bne_eq_false_iff_eq.mpr d9; clear d9
       (first | rw [e4] | (simp only [i64_w, i32_w]; rw [e4]) | skip)
       have H' := zA H; clear H
       go_wp2
       go_meet
       case rel => exact ⟨_, (0), (0), (0), (by first | exact H' | (subst_vars; exact H')), ⟨by have := h6.out; have := m0.out; first | omega | exact Nat.le_refl _⟩, ⟨zR (Kd.R_mono k2.out (fun _ hk => hk.2))⟩, ⟨zR (Kd.R_mono a5.out (fun _ hk => hk.2))⟩, ⟨zK a2.out⟩, ⟨zK a3.out⟩, ⟨zW HB.out⟩⟩
      have e4 := beq_eq_false_iff_ne.mpr d9; have k7 := bne_iff_ne.mpr d9
      (first | rw [e4] | (simp only [i64_w, i32_w]; rw [e4]) | skip)
      simp only [zU] at H; obtain ⟨rfl, rfl, rfl, rfl, rfl⟩ := H; have p1 := d4.out; have p3 := d5.out; obtain ⟨m7, m8, m9, n0, n1, n2, n3, n4⟩ := ze4 a2.out
      go_wp2
      refine bodyPost_ret (results_ct rfl _ _ c3 32 #[.int .i64 0, .int .i64 0, .int .i64 0, .slice none 0 0] (0, 0) _ rfl (zk4 a2.out) Tryz.underlying32 rfl (by kernel_rfl)) rfl ?_
      exact ⟨_, zE, by first | exact Kd.R_nil _ _ _ _ _ | exact Kd.N_nil _ _ _ _ _ | exact Kd.V_nil _ _ _ _ _ | exact Kd.Q_nil _ _ _ _ _ | exact Kd.S_nil _ _ _ _ _, zW HB.out⟩
     case rest =>
      clear h8
      try clear c1
      try clear c2
      try clear p2
      try clear c5
      try clear p6
      try clear c7
      try clear d6
      try clear c8
      try clear h5
      try clear p9
      try clear q9
      try clear g4
      try clear c6
      try clear g2
      try clear g3
      try clear c12
      try clear d8
      try clear e6
      try clear i0
      try clear i1
      try clear e7
      try clear i2
      try clear i3
      try clear c19
      try clear g7
      try clear m1
      try clear m2
      try clear g8
      try clear m3
      try clear m4
      try clear d9
      try clear e4
      try clear k7
      try clear c28
      try clear i8 i9 j0 j4 j5 j6 j7 j8
      try clear m7 m8 m9 n0 n1 n2 n3 n4
      try clear f3 f4 f5 f6 f7 f8 f9 g0
      try clear p2
      try clear p6
      try clear p9
      try clear q9
      obtain ⟨kq, k4, k5, k6, HA, p4, a4, a5, a2, a3, HB⟩ := hcut
      cases kq with
      | zero => exact absurd HA.out (by simp [spec_ParseVer.j3])
      | succ b4 =>
       have H := HA.out; clear HA; simp only [spec_ParseVer.j3] at H; replace H := zC0 H; obtain ⟨k8, H⟩ := H; have p5 := decide_eq_true k8; have p7 : decide (0 < a1.length) = true := decide_eq_true (by omega); clear k8; replace H := Option.bind_eq_some_iff.mp H; obtain ⟨⟨b6, p8⟩, k9, H⟩ := H
       try dsimp only at H
       have e8 := zA k9; clear k9; replace H := zC0 H; obtain ⟨l1, H⟩ := H; have q0 := decide_eq_true l1; have q1 : decide (1 < a1.length) = true := decide_eq_true (by omega); clear l1; replace H := Option.bind_eq_some_iff.mp H; obtain ⟨⟨c0, n5⟩, l2, H⟩ := H
       try dsimp only at H
       have e9 := zA l2; clear l2; replace H := zC0 H; obtain ⟨l3, H⟩ := H; have q2 := decide_eq_true l3; have q3 : decide (2 < a1.length) = true := decide_eq_true (by omega); clear l3; replace H := Option.bind_eq_some_iff.mp H; obtain ⟨⟨c4, l4⟩, l5, H⟩ := H
       try dsimp only at H
       have f0 := zA l5; clear l5; replace H := zB0 H
       rcases H with ⟨rfl, H⟩ | ⟨rfl, H⟩
       ·replace H := zB0 H
        rcases H with ⟨rfl, H⟩ | ⟨rfl, H⟩
        ·replace H := zB0 H
         rcases H with ⟨rfl, H⟩ | ⟨rfl, H⟩
         ·replace H := Option.bind_eq_some_iff.mp H; obtain ⟨q4, l6, H⟩ := H
          try dsimp only at H
          have l7 := zA l6; clear l6; replace H := zB0 H
          rcases H with ⟨rfl, H⟩ | ⟨rfl, H⟩
          ·simp only [zU] at H; obtain ⟨rfl, rfl, rfl, rfl, rfl⟩ := H; have a7 : 0 ≤ (0 : Int) := (by omega); have a8 : 0 < (a1.length : Int) := zD; obtain ⟨b5, c9, b7⟩ := Kd.at_string (Kd.R_reads' a4.out).2.2 0 a7 a8; cases c9; have h0 : (0 < a1.length) = True := eq_true (by omega)
           (try rw [show ((0 : Int)).toNat = 0 from rfl] at b7)
           (try rw [Addr.add_zero'] at b7)
           replace a7 := eq_true a7; replace a8 := eq_true a8
           go_wp2_with (first | ((with_reducible refine zq 152 ?_); refine zg (some 48) Tryz.func152 #[.string (rdOf ByteArray.empty a1 0), .int .i64 9999] ?_; (with_reducible refine (spec_ParseNum.calls b4 (rdOf ByteArray.empty a1 0) 9999 b6 true _ e8.out).mono ?_); rintro e w' ⟨rfl, ⟨nd, rfl⟩⟩; refine ⟨_, rfl, ?_⟩; (try (rw [drewN_self wc]; generalize hq_ : World.drewN wc _ = wc; replace a5 := zA (zh4 hq_.symm (zR a5.out)); replace a4 := zA (zh4 hq_.symm (zR a4.out)); replace a2 := zA (zh1 hq_.symm (zK a2.out)); replace a3 := zA (zh1 hq_.symm (zK a3.out)); replace HB := zA (zh2 hq_.symm (zW HB.out)); clear hq_)); have a9 : 0 ≤ (1 : Int) := (by omega); have b0 : 1 < (a1.length : Int) := zD; obtain ⟨d0, d1, b8⟩ := Kd.at_string (Kd.R_reads' a4.out).2.2 1 a9 b0; obtain rfl : b5 = d0 := (by injection d1); (try simp only [show (1 : Int).toNat = 1 from rfl, Nat.reduceMul, Nat.reduceEqDiff, Go.Addr.add, ↓reduceIte] at b8); have h1 : (1 < a1.length) = True := eq_true (by omega); (try rw [show ((1 : Int)).toNat = 1 from rfl] at b8); replace a9 := eq_true a9; replace b0 := eq_true b0) | ((with_reducible refine zq 152 ?_); refine zg (some 55) Tryz.func152 #[.string (rdOf ByteArray.empty a1 1), .int .i64 9999] ?_; (with_reducible refine (spec_ParseNum.calls b4 (rdOf ByteArray.empty a1 1) 9999 c0 true _ e9.out).mono ?_); rintro e w' ⟨rfl, ⟨nd, rfl⟩⟩; refine ⟨_, rfl, ?_⟩; (try (rw [drewN_self wc]; generalize hq_ : World.drewN wc _ = wc; replace a5 := zA (zh4 hq_.symm (zR a5.out)); replace a4 := zA (zh4 hq_.symm (zR a4.out)); replace a2 := zA (zh1 hq_.symm (zK a2.out)); replace a3 := zA (zh1 hq_.symm (zK a3.out)); replace HB := zA (zh2 hq_.symm (zW HB.out)); clear hq_)); have b1 : 0 ≤ (2 : Int) := (by omega); have b2 : 2 < (a1.length : Int) := zD; obtain ⟨d2, d3, b9⟩ := Kd.at_string (Kd.R_reads' a4.out).2.2 2 b1 b2; obtain rfl : b5 = d2 := (by injection d3); (try simp only [show (2 : Int).toNat = 2 from rfl, Nat.reduceMul, Nat.reduceEqDiff, Go.Addr.add, ↓reduceIte] at b9); have h2 : (2 < a1.length) = True := eq_true (by omega); (try rw [show ((2 : Int)).toNat = 2 from rfl] at b9); replace b1 := eq_true b1; replace b2 := eq_true b2) | ((with_reducible refine zq 152 ?_); refine zg (some 62) Tryz.func152 #[.string (rdOf ByteArray.empty a1 2), .int .i64 9999] ?_; (with_reducible refine (spec_ParseNum.calls b4 (rdOf ByteArray.empty a1 2) 9999 c4 true _ f0.out).mono ?_); rintro e w' ⟨rfl, ⟨nd, rfl⟩⟩; refine ⟨_, rfl, ?_⟩; (try (rw [drewN_self wc]; generalize hq_ : World.drewN wc _ = wc; replace a5 := zA (zh4 hq_.symm (zR a5.out)); replace a4 := zA (zh4 hq_.symm (zR a4.out)); replace a2 := zA (zh1 hq_.symm (zK a2.out)); replace a3 := zA (zh1 hq_.symm (zK a3.out)); replace HB := zA (zh2 hq_.symm (zW HB.out)); clear hq_)); have q5 := d5.out; have q6 := d4.out; obtain ⟨q7, q8, r0, r6, r7, r8, r9, t0⟩ := ze4 a3.out; obtain ⟨f1, e5, n6⟩ := Kd.R_slice a5.out; subst n6) | (go_at_call 68; (with_reducible refine (spec_VerOk.calls b4 b6 c0 c4 _ _ b3 true _ ?s1 ?s2 l7.out).mono ?_); (case s1 => refine (Kd.R_reads' (e := 9) (base := w.heap.size) (ok := fun k_ => some k_ ≠ (.slice (some b5) a1.length g9 : Value).ownBlock) (n := b3.length) (c := e5) ?_).2.2; exact (zR (zr3 a5.out a3.out))); (case s2 => exact (Kd.R_reads' a5.out).2.1); rintro e t1 ⟨rfl, hb⟩; replace a4 := zA (Kd.R_below (zR (zr3 a4.out a3.out)) hb); replace a5 := zA (Kd.R_below (zR (zr3 a5.out a3.out)) hb); replace a2 := zb a2 hb; replace a3 := zA (blk_below (g := d7) (o := .cells #[.int .i64 b6, .int .i64 c0, .int .i64 c4, .slice f1 b3.length e5] 32 (0, 0)) (by (with_reducible repeat (first | refine blk_drewN ?_ _ | refine blk_drew ?_ | refine blk_alloc ?_ _)); refine blk_put (cs := #[.int .i64 b6, .int .i64 c0, .int .i64 0, .slice f1 b3.length e5]) ?_ 2 _ rfl; (with_reducible repeat (first | refine blk_drewN ?_ _ | refine blk_drew ?_ | refine blk_alloc ?_ _)); refine blk_put (cs := #[.int .i64 b6, .int .i64 0, .int .i64 0, .slice f1 b3.length e5]) ?_ 1 _ rfl; (with_reducible repeat (first | refine blk_drewN ?_ _ | refine blk_drew ?_ | refine blk_alloc ?_ _)); refine blk_put (cs := #[.int .i64 0, .int .i64 0, .int .i64 0, .slice f1 b3.length e5]) ?_ 0 _ rfl; (with_reducible repeat (first | refine blk_drewN ?_ _ | refine blk_drew ?_ | refine blk_alloc ?_ _)); exact a3.out) hb); replace HB := zh HB hb; (try clear hb); obtain ⟨t2, t3, t4, t5, t6, t7, t8, t9⟩ := ze4 a3.out; obtain ⟨v0, v1, v2, v3, v4, v6, v7, v8⟩ := ze4 a2.out))
           refine bodyPost_ret (results_ct rfl _ _ c3 32 #[.int .i64 b6, .int .i64 c0, .int .i64 c4, .slice f1 b3.length e5] (0, 0) _ rfl (zk4 a2.out) Tryz.underlying32 rfl (by kernel_rfl)) rfl ?_
           exact ⟨_, zE, zR (Kd.R_mono (zr4 a5.out a2.out) (fun _ hk => trivial)), zW HB.out⟩
          simp only [zU] at H; obtain ⟨rfl, rfl, rfl, rfl, rfl⟩ := H; have a7 : 0 ≤ (0 : Int) := (by omega); have a8 : 0 < (a1.length : Int) := zD; obtain ⟨b5, c9, b7⟩ := Kd.at_string (Kd.R_reads' a4.out).2.2 0 a7 a8; cases c9; have h0 : (0 < a1.length) = True := eq_true (by omega)
          (try rw [show ((0 : Int)).toNat = 0 from rfl] at b7)
          (try rw [Addr.add_zero'] at b7)
          replace a7 := eq_true a7; replace a8 := eq_true a8
          go_wp2_with (first | ((with_reducible refine zq 152 ?_); refine zg (some 48) Tryz.func152 #[.string (rdOf ByteArray.empty a1 0), .int .i64 9999] ?_; (with_reducible refine (spec_ParseNum.calls b4 (rdOf ByteArray.empty a1 0) 9999 b6 true _ e8.out).mono ?_); rintro e w' ⟨rfl, ⟨nd, rfl⟩⟩; refine ⟨_, rfl, ?_⟩; (try (rw [drewN_self wc]; generalize hq_ : World.drewN wc _ = wc; replace a5 := zA (zh4 hq_.symm (zR a5.out)); replace a4 := zA (zh4 hq_.symm (zR a4.out)); replace a2 := zA (zh1 hq_.symm (zK a2.out)); replace a3 := zA (zh1 hq_.symm (zK a3.out)); replace HB := zA (zh2 hq_.symm (zW HB.out)); clear hq_)); have a9 : 0 ≤ (1 : Int) := (by omega); have b0 : 1 < (a1.length : Int) := zD; obtain ⟨d0, d1, b8⟩ := Kd.at_string (Kd.R_reads' a4.out).2.2 1 a9 b0; obtain rfl : b5 = d0 := (by injection d1); (try simp only [show (1 : Int).toNat = 1 from rfl, Nat.reduceMul, Nat.reduceEqDiff, Go.Addr.add, ↓reduceIte] at b8); have h1 : (1 < a1.length) = True := eq_true (by omega); (try rw [show ((1 : Int)).toNat = 1 from rfl] at b8); replace a9 := eq_true a9; replace b0 := eq_true b0) | ((with_reducible refine zq 152 ?_); refine zg (some 55) Tryz.func152 #[.string (rdOf ByteArray.empty a1 1), .int .i64 9999] ?_; (with_reducible refine (spec_ParseNum.calls b4 (rdOf ByteArray.empty a1 1) 9999 c0 true _ e9.out).mono ?_); rintro e w' ⟨rfl, ⟨nd, rfl⟩⟩; refine ⟨_, rfl, ?_⟩; (try (rw [drewN_self wc]; generalize hq_ : World.drewN wc _ = wc; replace a5 := zA (zh4 hq_.symm (zR a5.out)); replace a4 := zA (zh4 hq_.symm (zR a4.out)); replace a2 := zA (zh1 hq_.symm (zK a2.out)); replace a3 := zA (zh1 hq_.symm (zK a3.out)); replace HB := zA (zh2 hq_.symm (zW HB.out)); clear hq_)); have b1 : 0 ≤ (2 : Int) := (by omega); have b2 : 2 < (a1.length : Int) := zD; obtain ⟨d2, d3, b9⟩ := Kd.at_string (Kd.R_reads' a4.out).2.2 2 b1 b2; obtain rfl : b5 = d2 := (by injection d3); (try simp only [show (2 : Int).toNat = 2 from rfl, Nat.reduceMul, Nat.reduceEqDiff, Go.Addr.add, ↓reduceIte] at b9); have h2 : (2 < a1.length) = True := eq_true (by omega); (try rw [show ((2 : Int)).toNat = 2 from rfl] at b9); replace b1 := eq_true b1; replace b2 := eq_true b2) | ((with_reducible refine zq 152 ?_); refine zg (some 62) Tryz.func152 #[.string (rdOf ByteArray.empty a1 2), .int .i64 9999] ?_; (with_reducible refine (spec_ParseNum.calls b4 (rdOf ByteArray.empty a1 2) 9999 c4 true _ f0.out).mono ?_); rintro e w' ⟨rfl, ⟨nd, rfl⟩⟩; refine ⟨_, rfl, ?_⟩; (try (rw [drewN_self wc]; generalize hq_ : World.drewN wc _ = wc; replace a5 := zA (zh4 hq_.symm (zR a5.out)); replace a4 := zA (zh4 hq_.symm (zR a4.out)); replace a2 := zA (zh1 hq_.symm (zK a2.out)); replace a3 := zA (zh1 hq_.symm (zK a3.out)); replace HB := zA (zh2 hq_.symm (zW HB.out)); clear hq_)); have v9 := d5.out; have x0 := d4.out; obtain ⟨x1, x2, x3, x4, x5, x6, x7, x8⟩ := ze4 a3.out; obtain ⟨h3, f2, n7⟩ := Kd.R_slice a5.out; subst n7) | (go_at_call 68; (with_reducible refine (spec_VerOk.calls b4 b6 c0 c4 _ _ b3 false _ ?s1 ?s2 l7.out).mono ?_); (case s1 => refine (Kd.R_reads' (e := 9) (base := w.heap.size) (ok := fun k_ => some k_ ≠ (.slice (some b5) a1.length g9 : Value).ownBlock) (n := b3.length) (c := f2) ?_).2.2; exact (zR (zr3 a5.out a3.out))); (case s2 => exact (Kd.R_reads' a5.out).2.1); rintro e x9 ⟨rfl, hb⟩; replace a4 := zA (Kd.R_below (zR (zr3 a4.out a3.out)) hb); replace a5 := zA (Kd.R_below (zR (zr3 a5.out a3.out)) hb); replace a2 := zb a2 hb; replace a3 := zA (blk_below (g := d7) (o := .cells #[.int .i64 b6, .int .i64 c0, .int .i64 c4, .slice h3 b3.length f2] 32 (0, 0)) (by (with_reducible repeat (first | refine blk_drewN ?_ _ | refine blk_drew ?_ | refine blk_alloc ?_ _)); refine blk_put (cs := #[.int .i64 b6, .int .i64 c0, .int .i64 0, .slice h3 b3.length f2]) ?_ 2 _ rfl; (with_reducible repeat (first | refine blk_drewN ?_ _ | refine blk_drew ?_ | refine blk_alloc ?_ _)); refine blk_put (cs := #[.int .i64 b6, .int .i64 0, .int .i64 0, .slice h3 b3.length f2]) ?_ 1 _ rfl; (with_reducible repeat (first | refine blk_drewN ?_ _ | refine blk_drew ?_ | refine blk_alloc ?_ _)); refine blk_put (cs := #[.int .i64 0, .int .i64 0, .int .i64 0, .slice h3 b3.length f2]) ?_ 0 _ rfl; (with_reducible repeat (first | refine blk_drewN ?_ _ | refine blk_drew ?_ | refine blk_alloc ?_ _)); exact a3.out) hb); replace HB := zh HB hb; (try clear hb); obtain ⟨y0, y1, y2, y3, y4, y5, y6, y7⟩ := ze4 a2.out))
          refine bodyPost_ret (results_ct rfl _ _ c3 32 #[.int .i64 0, .int .i64 0, .int .i64 0, .slice none 0 0] (0, 0) _ rfl (zk4 a2.out) Tryz.underlying32 rfl (by kernel_rfl)) rfl ?_
          exact ⟨_, zE, by first | exact Kd.R_nil _ _ _ _ _ | exact Kd.N_nil _ _ _ _ _ | exact Kd.V_nil _ _ _ _ _ | exact Kd.Q_nil _ _ _ _ _ | exact Kd.S_nil _ _ _ _ _, zW HB.out⟩
         simp only [zU] at H; obtain ⟨rfl, rfl, rfl, rfl, rfl⟩ := H; have a7 : 0 ≤ (0 : Int) := (by omega); have a8 : 0 < (a1.length : Int) := zD; obtain ⟨b5, c9, b7⟩ := Kd.at_string (Kd.R_reads' a4.out).2.2 0 a7 a8; cases c9; have h0 : (0 < a1.length) = True := eq_true (by omega)
         (try rw [show ((0 : Int)).toNat = 0 from rfl] at b7)
         (try rw [Addr.add_zero'] at b7)
         replace a7 := eq_true a7; replace a8 := eq_true a8
         go_wp2_with (first | ((with_reducible refine zq 152 ?_); refine zg (some 48) Tryz.func152 #[.string (rdOf ByteArray.empty a1 0), .int .i64 9999] ?_; (with_reducible refine (spec_ParseNum.calls b4 (rdOf ByteArray.empty a1 0) 9999 b6 true _ e8.out).mono ?_); rintro e w' ⟨rfl, ⟨nd, rfl⟩⟩; refine ⟨_, rfl, ?_⟩; (try (rw [drewN_self wc]; generalize hq_ : World.drewN wc _ = wc; replace a5 := zA (zh4 hq_.symm (zR a5.out)); replace a4 := zA (zh4 hq_.symm (zR a4.out)); replace a2 := zA (zh1 hq_.symm (zK a2.out)); replace a3 := zA (zh1 hq_.symm (zK a3.out)); replace HB := zA (zh2 hq_.symm (zW HB.out)); clear hq_)); have a9 : 0 ≤ (1 : Int) := (by omega); have b0 : 1 < (a1.length : Int) := zD; obtain ⟨d0, d1, b8⟩ := Kd.at_string (Kd.R_reads' a4.out).2.2 1 a9 b0; obtain rfl : b5 = d0 := (by injection d1); (try simp only [show (1 : Int).toNat = 1 from rfl, Nat.reduceMul, Nat.reduceEqDiff, Go.Addr.add, ↓reduceIte] at b8); have h1 : (1 < a1.length) = True := eq_true (by omega); (try rw [show ((1 : Int)).toNat = 1 from rfl] at b8); replace a9 := eq_true a9; replace b0 := eq_true b0) | ((with_reducible refine zq 152 ?_); refine zg (some 55) Tryz.func152 #[.string (rdOf ByteArray.empty a1 1), .int .i64 9999] ?_; (with_reducible refine (spec_ParseNum.calls b4 (rdOf ByteArray.empty a1 1) 9999 c0 true _ e9.out).mono ?_); rintro e w' ⟨rfl, ⟨nd, rfl⟩⟩; refine ⟨_, rfl, ?_⟩; (try (rw [drewN_self wc]; generalize hq_ : World.drewN wc _ = wc; replace a5 := zA (zh4 hq_.symm (zR a5.out)); replace a4 := zA (zh4 hq_.symm (zR a4.out)); replace a2 := zA (zh1 hq_.symm (zK a2.out)); replace a3 := zA (zh1 hq_.symm (zK a3.out)); replace HB := zA (zh2 hq_.symm (zW HB.out)); clear hq_)); have b1 : 0 ≤ (2 : Int) := (by omega); have b2 : 2 < (a1.length : Int) := zD; obtain ⟨d2, d3, b9⟩ := Kd.at_string (Kd.R_reads' a4.out).2.2 2 b1 b2; obtain rfl : b5 = d2 := (by injection d3); (try simp only [show (2 : Int).toNat = 2 from rfl, Nat.reduceMul, Nat.reduceEqDiff, Go.Addr.add, ↓reduceIte] at b9); have h2 : (2 < a1.length) = True := eq_true (by omega); (try rw [show ((2 : Int)).toNat = 2 from rfl] at b9); replace b1 := eq_true b1; replace b2 := eq_true b2) | ((with_reducible refine zq 152 ?_); refine zg (some 62) Tryz.func152 #[.string (rdOf ByteArray.empty a1 2), .int .i64 9999] ?_; (with_reducible refine (spec_ParseNum.calls b4 (rdOf ByteArray.empty a1 2) 9999 c4 false _ f0.out).mono ?_); rintro e w' ⟨rfl, ⟨nd, rfl⟩⟩; refine ⟨_, rfl, ?_⟩; (try (rw [drewN_self wc]; generalize hq_ : World.drewN wc _ = wc; replace a5 := zA (zh4 hq_.symm (zR a5.out)); replace a4 := zA (zh4 hq_.symm (zR a4.out)); replace a2 := zA (zh1 hq_.symm (zK a2.out)); replace a3 := zA (zh1 hq_.symm (zK a3.out)); replace HB := zA (zh2 hq_.symm (zW HB.out)); clear hq_)); have y8 := d5.out; have y9 := d4.out; obtain ⟨z0, z1, z2, z3, z4, z5, z6, z7⟩ := ze4 a3.out; obtain ⟨z8, z9, A0, A1, A2, A3, A4, A5⟩ := ze4 a2.out))
         refine bodyPost_ret (results_ct rfl _ _ c3 32 #[.int .i64 0, .int .i64 0, .int .i64 0, .slice none 0 0] (0, 0) _ rfl (zk4 a2.out) Tryz.underlying32 rfl (by kernel_rfl)) rfl ?_
         exact ⟨_, zE, by first | exact Kd.R_nil _ _ _ _ _ | exact Kd.N_nil _ _ _ _ _ | exact Kd.V_nil _ _ _ _ _ | exact Kd.Q_nil _ _ _ _ _ | exact Kd.S_nil _ _ _ _ _, zW HB.out⟩
        simp only [zU] at H; obtain ⟨rfl, rfl, rfl, rfl, rfl⟩ := H; have a7 : 0 ≤ (0 : Int) := (by omega); have a8 : 0 < (a1.length : Int) := zD; obtain ⟨b5, c9, b7⟩ := Kd.at_string (Kd.R_reads' a4.out).2.2 0 a7 a8; cases c9; have h0 : (0 < a1.length) = True := eq_true (by omega)
        (try rw [show ((0 : Int)).toNat = 0 from rfl] at b7)
        (try rw [Addr.add_zero'] at b7)
        replace a7 := eq_true a7; replace a8 := eq_true a8
        go_wp2_with (first | ((with_reducible refine zq 152 ?_); refine zg (some 48) Tryz.func152 #[.string (rdOf ByteArray.empty a1 0), .int .i64 9999] ?_; (with_reducible refine (spec_ParseNum.calls b4 (rdOf ByteArray.empty a1 0) 9999 b6 true _ e8.out).mono ?_); rintro e w' ⟨rfl, ⟨nd, rfl⟩⟩; refine ⟨_, rfl, ?_⟩; (try (rw [drewN_self wc]; generalize hq_ : World.drewN wc _ = wc; replace a5 := zA (zh4 hq_.symm (zR a5.out)); replace a4 := zA (zh4 hq_.symm (zR a4.out)); replace a2 := zA (zh1 hq_.symm (zK a2.out)); replace a3 := zA (zh1 hq_.symm (zK a3.out)); replace HB := zA (zh2 hq_.symm (zW HB.out)); clear hq_)); have a9 : 0 ≤ (1 : Int) := (by omega); have b0 : 1 < (a1.length : Int) := zD; obtain ⟨d0, d1, b8⟩ := Kd.at_string (Kd.R_reads' a4.out).2.2 1 a9 b0; obtain rfl : b5 = d0 := (by injection d1); (try simp only [show (1 : Int).toNat = 1 from rfl, Nat.reduceMul, Nat.reduceEqDiff, Go.Addr.add, ↓reduceIte] at b8); have h1 : (1 < a1.length) = True := eq_true (by omega); (try rw [show ((1 : Int)).toNat = 1 from rfl] at b8); replace a9 := eq_true a9; replace b0 := eq_true b0) | ((with_reducible refine zq 152 ?_); refine zg (some 55) Tryz.func152 #[.string (rdOf ByteArray.empty a1 1), .int .i64 9999] ?_; (with_reducible refine (spec_ParseNum.calls b4 (rdOf ByteArray.empty a1 1) 9999 c0 false _ e9.out).mono ?_); rintro e w' ⟨rfl, ⟨nd, rfl⟩⟩; refine ⟨_, rfl, ?_⟩; (try (rw [drewN_self wc]; generalize hq_ : World.drewN wc _ = wc; replace a5 := zA (zh4 hq_.symm (zR a5.out)); replace a4 := zA (zh4 hq_.symm (zR a4.out)); replace a2 := zA (zh1 hq_.symm (zK a2.out)); replace a3 := zA (zh1 hq_.symm (zK a3.out)); replace HB := zA (zh2 hq_.symm (zW HB.out)); clear hq_)); have b1 : 0 ≤ (2 : Int) := (by omega); have b2 : 2 < (a1.length : Int) := zD; obtain ⟨d2, d3, b9⟩ := Kd.at_string (Kd.R_reads' a4.out).2.2 2 b1 b2; obtain rfl : b5 = d2 := (by injection d3); (try simp only [show (2 : Int).toNat = 2 from rfl, Nat.reduceMul, Nat.reduceEqDiff, Go.Addr.add, ↓reduceIte] at b9); have h2 : (2 < a1.length) = True := eq_true (by omega); (try rw [show ((2 : Int)).toNat = 2 from rfl] at b9); replace b1 := eq_true b1; replace b2 := eq_true b2) | ((with_reducible refine zq 152 ?_); refine zg (some 62) Tryz.func152 #[.string (rdOf ByteArray.empty a1 2), .int .i64 9999] ?_; (with_reducible refine (spec_ParseNum.calls b4 (rdOf ByteArray.empty a1 2) 9999 c4 l4 _ f0.out).mono ?_); rintro e w' ⟨rfl, ⟨nd, rfl⟩⟩; refine ⟨_, rfl, ?_⟩; (try (rw [drewN_self wc]; generalize hq_ : World.drewN wc _ = wc; replace a5 := zA (zh4 hq_.symm (zR a5.out)); replace a4 := zA (zh4 hq_.symm (zR a4.out)); replace a2 := zA (zh1 hq_.symm (zK a2.out)); replace a3 := zA (zh1 hq_.symm (zK a3.out)); replace HB := zA (zh2 hq_.symm (zW HB.out)); clear hq_)); have A6 := d5.out; have A7 := d4.out; obtain ⟨A8, A9, B0, B1, B2, B3, B4, B5⟩ := ze4 a3.out; obtain ⟨B6, B7, B8, B9, C0, C1, C2, C3⟩ := ze4 a2.out))
        refine bodyPost_ret (results_ct rfl _ _ c3 32 #[.int .i64 0, .int .i64 0, .int .i64 0, .slice none 0 0] (0, 0) _ rfl (zk4 a2.out) Tryz.underlying32 rfl (by kernel_rfl)) rfl ?_
        exact ⟨_, zE, by first | exact Kd.R_nil _ _ _ _ _ | exact Kd.N_nil _ _ _ _ _ | exact Kd.V_nil _ _ _ _ _ | exact Kd.Q_nil _ _ _ _ _ | exact Kd.S_nil _ _ _ _ _, zW HB.out⟩
       simp only [zU] at H; obtain ⟨rfl, rfl, rfl, rfl, rfl⟩ := H; have a7 : 0 ≤ (0 : Int) := (by omega); have a8 : 0 < (a1.length : Int) := zD; obtain ⟨b5, c9, b7⟩ := Kd.at_string (Kd.R_reads' a4.out).2.2 0 a7 a8; cases c9; have h0 : (0 < a1.length) = True := eq_true (by omega)
       (try rw [show ((0 : Int)).toNat = 0 from rfl] at b7)
       (try rw [Addr.add_zero'] at b7)
       replace a7 := eq_true a7; replace a8 := eq_true a8
       go_wp2_with (first | ((with_reducible refine zq 152 ?_); refine zg (some 48) Tryz.func152 #[.string (rdOf ByteArray.empty a1 0), .int .i64 9999] ?_; (with_reducible refine (spec_ParseNum.calls b4 (rdOf ByteArray.empty a1 0) 9999 b6 false _ e8.out).mono ?_); rintro e w' ⟨rfl, ⟨nd, rfl⟩⟩; refine ⟨_, rfl, ?_⟩; (try (rw [drewN_self wc]; generalize hq_ : World.drewN wc _ = wc; replace a5 := zA (zh4 hq_.symm (zR a5.out)); replace a4 := zA (zh4 hq_.symm (zR a4.out)); replace a2 := zA (zh1 hq_.symm (zK a2.out)); replace a3 := zA (zh1 hq_.symm (zK a3.out)); replace HB := zA (zh2 hq_.symm (zW HB.out)); clear hq_)); have a9 : 0 ≤ (1 : Int) := (by omega); have b0 : 1 < (a1.length : Int) := zD; obtain ⟨d0, d1, b8⟩ := Kd.at_string (Kd.R_reads' a4.out).2.2 1 a9 b0; obtain rfl : b5 = d0 := (by injection d1); (try simp only [show (1 : Int).toNat = 1 from rfl, Nat.reduceMul, Nat.reduceEqDiff, Go.Addr.add, ↓reduceIte] at b8); have h1 : (1 < a1.length) = True := eq_true (by omega); (try rw [show ((1 : Int)).toNat = 1 from rfl] at b8); replace a9 := eq_true a9; replace b0 := eq_true b0) | ((with_reducible refine zq 152 ?_); refine zg (some 55) Tryz.func152 #[.string (rdOf ByteArray.empty a1 1), .int .i64 9999] ?_; (with_reducible refine (spec_ParseNum.calls b4 (rdOf ByteArray.empty a1 1) 9999 c0 n5 _ e9.out).mono ?_); rintro e w' ⟨rfl, ⟨nd, rfl⟩⟩; refine ⟨_, rfl, ?_⟩; (try (rw [drewN_self wc]; generalize hq_ : World.drewN wc _ = wc; replace a5 := zA (zh4 hq_.symm (zR a5.out)); replace a4 := zA (zh4 hq_.symm (zR a4.out)); replace a2 := zA (zh1 hq_.symm (zK a2.out)); replace a3 := zA (zh1 hq_.symm (zK a3.out)); replace HB := zA (zh2 hq_.symm (zW HB.out)); clear hq_)); have b1 : 0 ≤ (2 : Int) := (by omega); have b2 : 2 < (a1.length : Int) := zD; obtain ⟨d2, d3, b9⟩ := Kd.at_string (Kd.R_reads' a4.out).2.2 2 b1 b2; obtain rfl : b5 = d2 := (by injection d3); (try simp only [show (2 : Int).toNat = 2 from rfl, Nat.reduceMul, Nat.reduceEqDiff, Go.Addr.add, ↓reduceIte] at b9); have h2 : (2 < a1.length) = True := eq_true (by omega); (try rw [show ((2 : Int)).toNat = 2 from rfl] at b9); replace b1 := eq_true b1; replace b2 := eq_true b2) | ((with_reducible refine zq 152 ?_); refine zg (some 62) Tryz.func152 #[.string (rdOf ByteArray.empty a1 2), .int .i64 9999] ?_; (with_reducible refine (spec_ParseNum.calls b4 (rdOf ByteArray.empty a1 2) 9999 c4 l4 _ f0.out).mono ?_); rintro e w' ⟨rfl, ⟨nd, rfl⟩⟩; refine ⟨_, rfl, ?_⟩; (try (rw [drewN_self wc]; generalize hq_ : World.drewN wc _ = wc; replace a5 := zA (zh4 hq_.symm (zR a5.out)); replace a4 := zA (zh4 hq_.symm (zR a4.out)); replace a2 := zA (zh1 hq_.symm (zK a2.out)); replace a3 := zA (zh1 hq_.symm (zK a3.out)); replace HB := zA (zh2 hq_.symm (zW HB.out)); clear hq_)); have C4 := d5.out; have C5 := d4.out; obtain ⟨C6, C7, C8, C9, D0, D1, D2, D3⟩ := ze4 a3.out; obtain ⟨D4, D5, D6, D7, D8, D9, E0, E1⟩ := ze4 a2.out))
       refine bodyPost_ret (results_ct rfl _ _ c3 32 #[.int .i64 0, .int .i64 0, .int .i64 0, .slice none 0 0] (0, 0) _ rfl (zk4 a2.out) Tryz.underlying32 rfl (by kernel_rfl)) rfl ?_
       exact ⟨_, zE, by first | exact Kd.R_nil _ _ _ _ _ | exact Kd.N_nil _ _ _ _ _ | exact Kd.V_nil _ _ _ _ _ | exact Kd.Q_nil _ _ _ _ _ | exact Kd.S_nil _ _ _ _ _, zW HB.out⟩
/-! ### spec_l4Read: function 153 -/
mutual
def spec_l4Read.j0 : Nat → ByteArray → Option (Int × Int × Int × List ByteArray × Int × Bool)
 | 0, _ => none
 | k + 1, x0 => (spec_Split.f k x0 46).bind fun a6 => (if (a6.length : Int) > 3 then (some (0, 0, 0, ([] : List ByteArray), 0, false)) else (spec_l4Read.j1 k a6 (([0, 0, 0] : List Int)) 0 0 0 0 false))
def spec_l4Read.j1 : Nat → List ByteArray → List Int → Int → Int → Int → Int → Bool → Option (Int × Int × Int × List ByteArray × Int × Bool)
 | 0, _, _, _, _, _, _, _ => none
 | k + 1, x5, x7, a1, a2, a3, a0, a4 => spec_l4Read.l0 k x5 x7 a1 a2 a3 a0 a4
def spec_l4Read.l0 : Nat → List ByteArray → List Int → Int → Int → Int → Int → Bool → Option (Int × Int × Int × List ByteArray × Int × Bool)
 | 0, _, _, _, _, _, _, _ => none
 | k + 1, x5, x7, a1, a2, a3, a0, a4 => if a0 < (x5.length : Int) then (if 0 ≤ a0 then (spec_l4Read.j3 k x5 x7 ((rdOf ByteArray.empty x5 a0).toList != ([120] : List UInt8)) a1 a2 a3 a0 a4) else (none)) else (spec_l4Read.j3 k x5 x7 false a1 a2 a3 a0 a4)
def spec_l4Read.j3 : Nat → List ByteArray → List Int → Bool → Int → Int → Int → Int → Bool → Option (Int × Int × Int × List ByteArray × Int × Bool)
 | 0, _, _, _, _, _, _, _, _ => none
 | k + 1, x5, x7, a8, a1, a2, a3, a0, a4 => if a8 = true then (if 0 ≤ a0 then (if a0 < (x5.length : Int) then ((spec_ParseNum.f k (rdOf ByteArray.empty x5 a0) 9999).bind fun a7 => (if a7.2 = true then (if a0 < (x7.length : Int) then (spec_l4Read.l0 k x5 (x7.set (a0 : Int).toNat a7.1) a1 a2 a3 (wrap64 (a0 + 1)) a4) else (none)) else (some (0, 0, 0, ([] : List ByteArray), 0, false)))) else (none)) else (none)) else (spec_l4Read.l1 k x5 x7 a0 a1 a2 a3 a0 a4)
def spec_l4Read.l1 : Nat → List ByteArray → List Int → Int → Int → Int → Int → Int → Bool → Option (Int × Int × Int × List ByteArray × Int × Bool)
 | 0, _, _, _, _, _, _, _, _ => none
 | k + 1, x5, x7, a5, a1, a2, a3, a0, a4 => if a5 < (x5.length : Int) then (if 0 ≤ a5 then (if (rdOf ByteArray.empty x5 a5).toList = ([120] : List UInt8) then (spec_l4Read.l1 k x5 x7 (wrap64 (a5 + 1)) a1 a2 a3 a0 a4) else (some (0, 0, 0, ([] : List ByteArray), 0, false))) else (none)) else (if 0 < (x7.length : Int) then (if 1 < (x7.length : Int) then (if 2 < (x7.length : Int) then ((spec_l1In.f a0 1 2).bind fun a9 => (some (rd x7 0, rd x7 1, rd x7 2, ([] : List ByteArray), a0, a9))) else (none)) else (none)) else (none))
end
def spec_l4Read.f (k : Nat) (a0 : ByteArray) : Option (Int × Int × Int × List ByteArray × Int × Bool) := (spec_ParseVer.f k a0).bind fun a1 => (if a1.2.2.2.2 = true then (some (a1.1, a1.2.1, a1.2.2.1, a1.2.2.2.1, 3, true)) else (spec_l4Read.j0 k a0))
def spec_l4Read.T20 : Bool × List (List Nat × List Nat) := (true, [([], []), ([0], [0]), ([1], [1]), ([], []), ([3], [3]), ([4], [4]), ([], []), ([6], [6]), ([7], [7]), ([2, 5, 8], [2, 5, 8]), ([0, 1, 2, 3, 4, 5, 6, 7, 8, 9], []), ([10, 9, 0, 1, 2, 3, 4, 5, 6, 7, 8, 9], [9, 10])])
def spec_l4Read.B20 : List Nat := [0, 1, 3, 0, 8, 24, 0, 64, 192, 511, 1023, 2047]
theorem spec_l4Read.tab20 : rtab .any (opsOf Tryz.f153 20) = spec_l4Read.T20 := by kernel_rfl
theorem spec_l4Read.bits20 : waitsOk spec_l4Read.T20.2 spec_l4Read.B20 = true := by kernel_rfl
theorem spec_l4Read.calls (k : Nat) (a0 : ByteArray) (r1 r2 r3 : Int) (r4 : List ByteArray) (r5 : Int) (r6 : Bool) (w : World) (h : spec_l4Read.f k a0 = some (r1, r2, r3, r4, r5, r6)) :
  Calls Tryz.prog 153 #[.string a0] w fun e w' => ∃ t6 : Value, e = .returned (.agg #[.int .i64 r1, .int .i64 r2, .int .i64 r3, t6, .int .i64 r5, .bool r6]) ∧ Kd.R Kd.string 9 w' w.heap.size (fun _ => True) t6 r4 ∧ Below w.heap.size w w' := by
 have L0 := Tryz.underlying169
 have L1 := Tryz.underlying32
 have HB := zA (Below.refl w.heap.size w)
 unfold spec_l4Read.f at h
 have H := h
 clear h
 replace H := Option.bind_eq_some_iff.mp H
 obtain ⟨⟨b9, c0, c6, a9, C5⟩, t7, H⟩ := H
 try dsimp only at H
 have A2 := zA t7
 clear t7
 have n7 := zA H
 clear H
 go_enter Tryz.func153, Tryz.ntmps153
 go_upto_if 16 with (first | ((with_reducible refine zd 2 ?_); refine ze 2 169 #[.int .i64 0, .int .i64 0, .int .i64 0, .slice none 0 0, .int .i64 0, .bool false] ?_; intro b4 hg w4 hbox hb; have a3 := zA (hbox); have L2 := zi HB hg; have L3 := zi HB hg; replace HB := zA (below_step (zB) hb); clear hb hbox hg) | ((with_reducible refine zq 124 ?_); refine zg (some 13) Tryz.func124 #[.string a0] ?_; (with_reducible refine (spec_ParseVer.calls k a0 b9 c0 c6 a9 C5 _ A2.out).mono ?_); rintro e w5 ⟨L4, rfl, e1, hb⟩; refine ⟨_, rfl, ?_⟩; have f4 := zA (Kd.R_lower e1 (below_size (zW HB.out))); replace a3 := zb a3 hb; replace HB := zh HB hb; (try clear hb e1)) | ((with_reducible refine zd 3 ?_); refine ze 3 32 #[.int .i64 0, .int .i64 0, .int .i64 0, .slice none 0 0] ?_; intro c8 hg w6 hbox hb; replace f4 := zr f4 hb; have a5 := zA (hbox); have L5 := zi HB hg; have L6 := zi HB hg; replace HB := zh HB hb; have e2 := zA (zL hg (zK a3.out)); have e3 := zA (zJ hg (zK a3.out)); replace a3 := zb a3 hb; clear hb hbox hg; have L7 := e3.out; have L8 := e2.out; obtain ⟨f5, f6, f7, f8, f9, g0, g1, g2⟩ := ze4 a5.out; obtain ⟨b1, b2, C6⟩ := Kd.R_slice f4.out; subst C6))
 (try simp only [Act.put, zT])
 go_cut [] (fun wc => ∃ (kq : Nat) (n8 : Int) (n9 : Int) (o0 : Int) (o1 : Int) (o2 : Bool), Aside0 (spec_l4Read.j0 kq a0 = some (r1, r2, r3, r4, r5, r6)) ∧ Aside0 (kq ≤ k) ∧ Aside0 (Kd.R Kd.string 9 wc w.heap.size (fun _ => True) (.slice b1 a9.length b2) a9) ∧ Aside0 (wc.heap[b4]? = some (.cells #[.int .i64 n8, .int .i64 n9, .int .i64 o0, (.slice none 0 0), .int .i64 o1, .bool o2] 169 (0, 0))) ∧ Aside0 (wc.heap[c8]? = some (.cells #[.int .i64 b9, .int .i64 c0, .int .i64 c6, (.slice b1 a9.length b2)] 32 (0, 0))) ∧ Aside0 (Below w.heap.size w wc))
 case first =>
  have H := n7.out; clear n7; replace H := zB0 H
  rcases H with ⟨rfl, H⟩ | ⟨rfl, H⟩
  ·simp only [zU] at H; obtain ⟨rfl, rfl, rfl, rfl, rfl, rfl⟩ := H; have L9 := e3.out; have M0 := e2.out; obtain ⟨g3, g4, g5, g6, g7, g8, g9, h0⟩ := ze4 a5.out; obtain ⟨h1, h2, h3, h4, h5, h6, h7, h8, h9, i0, i1, i2⟩ := ze6 a3.out
   go_wp2
   refine bodyPost_ret (results_cell_row rfl _ _ b4 169 #[.int .i64 b9, .int .i64 c0, .int .i64 c6, .slice b1 a9.length b2, .int .i64 3, .bool true] (0, 0) _ rfl (zk6 a3.out) Tryz.underlying169 rfl (by kernel_rfl)) rfl ?_
   exact ⟨_, zE, zR (Kd.R_mono (Kd.R_far (p := ⟨b4, 5, none⟩) (Kd.R_far (p := ⟨b4, 4, none⟩) (Kd.R_far (p := ⟨b4, 3, none⟩) (Kd.R_far (p := ⟨b4, 2, none⟩) (Kd.R_far (p := ⟨b4, 1, none⟩) (Kd.R_far (p := ⟨b4, 0, none⟩) (Kd.R_far (p := ⟨c8, 3, none⟩) (Kd.R_far (p := ⟨c8, 2, none⟩) (Kd.R_far (p := ⟨c8, 1, none⟩) (Kd.R_far (p := ⟨c8, 0, none⟩) (Kd.R_types (Kd.R_types f4.out a5.out (by decide)) a3.out (by decide)) (fun _ hk => hk.1.2) (.int .i64 b9)) (fun _ hk => hk.1.2) (.int .i64 c0)) (fun _ hk => hk.1.2) (.int .i64 c6)) (fun _ hk => hk.1.2) (.slice b1 a9.length b2)) (fun _ hk => hk.2) (.int .i64 b9)) (fun _ hk => hk.2) (.int .i64 c0)) (fun _ hk => hk.2) (.int .i64 c6)) (fun _ hk => hk.2) (.slice b1 a9.length b2)) (fun _ hk => hk.2) (.int .i64 3)) (fun _ hk => hk.2) (.bool true)) (fun _ hk => trivial)), zW HB.out⟩
  have H' := zA H; clear H
  go_wp2
  go_meet
  case rel => exact ⟨_, (0), (0), (0), (0), (false), (by first | exact H' | (subst_vars; exact H')), ⟨by first | omega | exact Nat.le_refl _⟩, ⟨zR (Kd.R_mono (zr4 f4.out a5.out) (fun _ hk => trivial))⟩, ⟨zK a3.out⟩, ⟨zk4 a5.out⟩, ⟨zW HB.out⟩⟩
 case rest =>
  clear n7
  try clear c1
  try clear p2
  try clear c7
  try clear c10
  try clear c11
  try clear c12
  try clear g3 g4 g5 g6 g7 g8 g9 h0
  try clear h1 h2 h3 h4 h5 h6 h7 h8 h9 i0 i1 i2
  try clear f5 f6 f7 f8 f9 g0 g1 g2
  obtain ⟨kq, n8, n9, o0, o1, o2, HA, d6, a7, a3, a5, HB⟩ := hcut
  cases kq with
  | zero => exact absurd HA.out (by simp [spec_l4Read.j0])
  | succ o3 =>
   have H := HA.out; clear HA; simp only [spec_l4Read.j0] at H; replace H := Option.bind_eq_some_iff.mp H; obtain ⟨a6, t8, H⟩ := H
   try dsimp only at H
   have C7 := zA t8; clear t8; obtain ⟨j4, o4⟩ : ∃ y_ : List Int, y_ = (([0, 0, 0] : List Int)) := ⟨_, rfl⟩; replace H : (if (a6.length : Int) > 3 then (some (0, 0, 0, ([] : List ByteArray), 0, false)) else (spec_l4Read.j1 o3 a6 j4 0 0 0 0 false)) = some (r1, r2, r3, r4, r5, r6) := zY o4 H; have t9 := zA o4; clear o4; have o5 := zA H; clear H
   go_upto_if 25 with (first | ((with_reducible refine zq 78 ?_); refine zg (some 20) Tryz.func78 #[.string a0, .int .u8 46] ?_; (with_reducible refine (spec_Split.calls o3 a0 46 a6 _ C7.out).mono ?_); rintro e M1 ⟨M2, rfl, e1, hb⟩; refine ⟨_, rfl, ?_⟩; have e4 := zA (Kd.R_lower (Kd.R_new' e1 (Kd.R_lt (zR a7.out))) (below_size (zW HB.out))); replace a7 := zA (Kd.R_elder' (zR a7.out) (Kd.R_base e1) hb); replace a3 := zb a3 hb; replace a5 := zb a5 hb; replace HB := zh HB hb; (try clear hb e1)) | ((with_reducible refine zd 6 ?_); refine ze 6 169 #[.int .i64 0, .int .i64 0, .int .i64 0, .slice none 0 0, .int .i64 0, .bool false] ?_; intro b3 hg M3 hbox hb; replace a7 := zr a7 hb; replace e4 := zr e4 hb; have a1 := zA (hbox); have M4 := zi HB hg; have M5 := zi HB hg; replace HB := zh HB hb; have b5 := zA (zL hg (zK a3.out)); have b6 := zA (zJ hg (zK a3.out)); replace a3 := zb a3 hb; have b7 := zA (zL hg (zK a5.out)); have b8 := zA (zJ hg (zK a5.out)); replace a5 := zb a5 hb; clear hb hbox hg; have M6 := b6.out; have M7 := b5.out; have M8 := b8.out; have M9 := b7.out; obtain ⟨j5, j6, j7, j8, j9, k0, k1, k2, k4, k6, k7, k8⟩ := ze6 a1.out) | ((with_reducible refine gate_dst (N := 22) rfl ?_); refine Kd.R_lit (Kd.int .i64) _ 3 ?hg (N := 22) ?hd (xs := ([0, 0, 0] : List Int)) (inner := [.int .i64 0, .int .i64 0, .int .i64 0]) (ok := fun _ => True) ?hr ?hp (fun _ hk => hk) trivial (Below.refl _ _) (Nat.le_refl _) (by simp) ?_; (case hd => rfl); (case hg => rfl); (case hr => first | (go_simp; done) | (go_simp; rfl)); (case hp => exact (Reps.one (show Kd.M (Kd.int .i64) _ _ _ 0 [.int .i64 0] from rfl) (Reps.one (show Kd.M (Kd.int .i64) _ _ _ 0 [.int .i64 0] from rfl) (Reps.one (show Kd.M (Kd.int .i64) _ _ _ 0 [.int .i64 0] from rfl) (Reps.none _ _))))); intro k9 N0 i3 hb hg_ hnew_; clear hg_ hnew_; (first | rw [← t9.out] at i3 | (simp only [Int.reduceToNat] at i3; rw [← t9.out] at i3)); replace a7 := zA (Kd.R_below (zR (zr6 a7.out a1.out)) hb); replace e4 := zA (Kd.R_below (zR (zr6 e4.out a1.out)) hb); have C8 := zA (Kd.R_lower i3 (below_size (zW HB.out))); replace a3 := zb a3 hb; replace a5 := zb a5 hb; replace a1 := zA (blk_below (zk6 a1.out) hb); replace HB := zh HB hb; clear hb i3; obtain ⟨d2, d3, C9⟩ := Kd.R_slice e4.out; subst C9))
   (try simp only [Act.put, zT])
   go_cut [] (fun wc => ∃ (kq : Nat) (o6 : Int) (o7 : Int) (o8 : Int) (o9 : Int) (p0 : Bool), Aside0 (spec_l4Read.j1 kq a6 j4 0 0 0 0 false = some (r1, r2, r3, r4, r5, r6)) ∧ Aside0 (kq ≤ o3) ∧ Aside0 (Kd.R Kd.string 9 wc w.heap.size (fun k_ => some k_ ≠ ((.slice b1 a9.length b2) : Value).ownBlock) (.slice d2 a6.length d3) a6) ∧ Aside0 (Kd.R (Kd.int .i64) 3 wc w.heap.size (fun _ => True) k9 j4) ∧ Aside0 (Kd.R Kd.string 9 wc w.heap.size (fun k_ => some k_ ≠ ((.slice d2 a6.length d3) : Value).ownBlock) (.slice b1 a9.length b2) a9) ∧ Aside0 (wc.heap[b4]? = some (.cells #[.int .i64 o6, .int .i64 o7, .int .i64 o8, (.slice none 0 0), .int .i64 o9, .bool p0] 169 (0, 0))) ∧ Aside0 (wc.heap[c8]? = some (.cells #[.int .i64 b9, .int .i64 c0, .int .i64 c6, (.slice b1 a9.length b2)] 32 (0, 0))) ∧ Aside0 (wc.heap[b3]? = some (.cells #[.int .i64 0, .int .i64 0, .int .i64 0, (.slice none 0 0), .int .i64 0, .bool false] 169 (0, 0))) ∧ Aside0 (Below w.heap.size w wc))
   case first =>
    have H := o5.out; clear o5; replace H := zI1 H
    rcases H with ⟨d0, H⟩ | ⟨d0, H⟩
    ·have d1 : decide (3 < (a6.length : Int)) = true := decide_eq_true d0; have i4 : decide (3 < a6.length) = true := decide_eq_true (by omega); clear d0
     (first | rw [d1] | (simp only [i64_w, i32_w]; rw [d1]) | skip)
     simp only [zU] at H; obtain ⟨rfl, rfl, rfl, rfl, rfl, rfl⟩ := H; have N1 := b6.out; have N2 := b5.out; have N3 := b8.out; have N4 := b7.out; obtain ⟨l2, l3, l4, l5, l6, l7, l8, l9, m0, m1, m2, m3⟩ := ze6 a1.out; have N5 := e2.out; have N6 := e3.out; obtain ⟨m4, m5, m6, m7, m8, m9, n0, n1, n2, n3, n4, n5⟩ := ze6 a3.out
     go_wp2
     refine bodyPost_ret (results_cell_row rfl _ _ b4 169 #[.int .i64 0, .int .i64 0, .int .i64 0, .slice none 0 0, .int .i64 0, .bool false] (0, 0) _ rfl (zk6 a3.out) Tryz.underlying169 rfl (by kernel_rfl)) rfl ?_
     exact ⟨_, zE, by first | exact Kd.R_nil _ _ _ _ _ | exact Kd.N_nil _ _ _ _ _ | exact Kd.V_nil _ _ _ _ _ | exact Kd.Q_nil _ _ _ _ _ | exact Kd.S_nil _ _ _ _ _, zW HB.out⟩
    have d1 : decide (3 < (a6.length : Int)) = false := decide_eq_false d0; have i4 : decide (3 < a6.length) = false := decide_eq_false (by omega); clear d0
    (first | rw [d1] | (simp only [i64_w, i32_w]; rw [d1]) | skip)
    have H' := zA H; clear H
    go_wp2
    go_meet
    case rel => exact ⟨_, (n8), (n9), (o0), (o1), (o2), (by first | exact H' | (subst_vars; exact H')), ⟨by have := d6.out; first | omega | exact Nat.le_refl _⟩, ⟨zR (Kd.R_mono e4.out (fun _ hk => hk.2))⟩, ⟨zR C8.out⟩, ⟨zR (Kd.R_mono a7.out (fun _ hk => hk.2))⟩, ⟨zK a3.out⟩, ⟨zK a5.out⟩, ⟨zK a1.out⟩, ⟨zW HB.out⟩⟩
   case rest =>
    clear o5
    try clear c1
    try clear c2
    try clear p2
    try clear c7
    try clear c10
    try clear c11
    try clear c12
    try clear c15
    try clear c18
    try clear c19
    try clear d0
    try clear d1
    try clear i4
    try clear c25
    try clear c26
    try clear c28
    try clear g3 g4 g5 g6 g7 g8 g9 h0
    try clear h1 h2 h3 h4 h5 h6 h7 h8 h9 i0 i1 i2
    try clear j5 j6 j7 j8 j9 k0 k1 k2 k4 k6 k7 k8
    try clear l2 l3 l4 l5 l6 l7 l8 l9 m0 m1 m2 m3
    try clear m4 m5 m6 m7 m8 m9 n0 n1 n2 n3 n4 n5
    try clear f5 f6 f7 f8 f9 g0 g1 g2
    try clear p2
    obtain ⟨kq, o6, o7, o8, o9, p0, HA, e5, b0, a2, a7, a3, a5, a1, HB⟩ := hcut
    cases kq with
    | zero => exact absurd HA.out (by simp [spec_l4Read.j1])
    | succ v0 =>
     have H := HA.out; clear HA; simp only [spec_l4Read.j1] at H; have H' := zA H; clear H
     go_wp2
     go_loopg [] v0 (fun kq w' => ∃ (a8 : List Int) (e6 : Int) (e7 : Int) (e8 : Int) (e9 : Int) (f0 : Bool) (a4 : Int), Aside0 (spec_l4Read.l0 kq a6 a8 0 0 0 a4 false = some (r1, r2, r3, r4, r5, r6)) ∧ Aside0 (kq ≤ v0) ∧ Aside0 (Kd.R Kd.string 9 w' w.heap.size (fun k_ => some k_ ≠ ((.slice b1 a9.length b2) : Value).ownBlock) (.slice d2 a6.length d3) a6) ∧ Aside0 (Kd.R (Kd.int .i64) 3 w' w.heap.size (fun _ => True) k9 a8) ∧ Aside0 (Kd.R Kd.string 9 w' w.heap.size (fun k_ => some k_ ≠ ((.slice d2 a6.length d3) : Value).ownBlock) (.slice b1 a9.length b2) a9) ∧ Aside0 (w'.heap[b4]? = some (.cells #[.int .i64 e6, .int .i64 e7, .int .i64 e8, (.slice none 0 0), .int .i64 e9, .bool f0] 169 (0, 0))) ∧ Aside0 (w'.heap[c8]? = some (.cells #[.int .i64 b9, .int .i64 c0, .int .i64 c6, (.slice b1 a9.length b2)] 32 (0, 0))) ∧ Aside0 (w'.heap[b3]? = some (.cells #[.int .i64 0, .int .i64 0, .int .i64 0, (.slice none 0 0), .int .i64 a4, .bool false] 169 (0, 0))) ∧ Aside0 (Below w.heap.size w w'))
     case atStart => exact ⟨(j4), (o6), (o7), (o8), (o9), (p0), (0), H', ⟨Nat.le_refl _⟩, ⟨zR b0.out⟩, ⟨zR a2.out⟩, ⟨zR a7.out⟩, ⟨zK a3.out⟩, ⟨zK a5.out⟩, ⟨zK a1.out⟩, ⟨zW HB.out⟩⟩
     case round =>
      clear H'
      try clear c1
      try clear c2
      try clear p2
      try clear c7
      try clear c10
      try clear c11
      try clear c12
      try clear c15
      try clear c18
      try clear c19
      try clear d0
      try clear d1
      try clear i4
      try clear c25
      try clear c26
      try clear c28
      try clear g3 g4 g5 g6 g7 g8 g9 h0
      try clear h1 h2 h3 h4 h5 h6 h7 h8 h9 i0 i1 i2
      try clear j5 j6 j7 j8 j9 k0 k1 k2 k4 k6 k7 k8
      try clear l2 l3 l4 l5 l6 l7 l8 l9 m0 m1 m2 m3
      try clear m4 m5 m6 m7 m8 m9 n0 n1 n2 n3 n4 n5
      try clear f5 f6 f7 f8 f9 g0 g1 g2
      try clear p2
      obtain ⟨a8, e6, e7, e8, e9, f0, a4, HA, f1, b0, a2, a7, a3, a5, a1, HB⟩ := hrel
      cases gk with
      | zero => exact absurd HA.out (by simp [spec_l4Read.l0])
      | succ k3 =>
       have H := HA.out; clear HA; simp only [spec_l4Read.l0] at H; have p3 := zA H; clear H
       go_upto_region 9 with (fail)
       go_cut [39] (fun D0 wc => ∃ (kq : Nat) (p5 : Bool), D0 = .bool p5 ∧ Aside0 (spec_l4Read.j3 kq a6 a8 p5 0 0 0 a4 false = some (r1, r2, r3, r4, r5, r6)) ∧ Aside0 (kq ≤ k3) ∧ Aside0 (Kd.R Kd.string 9 wc w.heap.size (fun k_ => some k_ ≠ ((.slice b1 a9.length b2) : Value).ownBlock) (.slice d2 a6.length d3) a6) ∧ Aside0 (Kd.R (Kd.int .i64) 3 wc w.heap.size (fun _ => True) k9 a8) ∧ Aside0 (Kd.R Kd.string 9 wc w.heap.size (fun k_ => some k_ ≠ ((.slice d2 a6.length d3) : Value).ownBlock) (.slice b1 a9.length b2) a9) ∧ Aside0 (wc.heap[b4]? = some (.cells #[.int .i64 e6, .int .i64 e7, .int .i64 e8, (.slice none 0 0), .int .i64 e9, .bool f0] 169 (0, 0))) ∧ Aside0 (wc.heap[c8]? = some (.cells #[.int .i64 b9, .int .i64 c0, .int .i64 c6, (.slice b1 a9.length b2)] 32 (0, 0))) ∧ Aside0 (wc.heap[b3]? = some (.cells #[.int .i64 0, .int .i64 0, .int .i64 0, (.slice none 0 0), .int .i64 a4, .bool false] 169 (0, 0))) ∧ Aside0 (Below w.heap.size w wc))
       case first =>
        have H := p3.out; clear p3; replace H := zI0 H
        rcases H with ⟨d7, H⟩ | ⟨d7, H⟩
        ·(first | rw [d7] | (simp only [i64_w, i32_w]; rw [d7]) | skip)
         replace H := zD0 H; obtain ⟨v1, H⟩ := H; have H' := zA H; clear H; have N7 := b6.out; have N8 := b5.out; have N9 := b8.out; have O0 := b7.out; obtain ⟨v2, v3, v4, v5, v6, v7, v8, v9, x0, x1, x2, x3⟩ := ze6 a1.out; have i5 : 0 ≤ (a4 : Int) := zD; have i6 : a4 < (a6.length : Int) := zD; obtain ⟨O1, D1, x4⟩ := Kd.at_string (Kd.R_reads' b0.out).2.2 a4 i5 i6; cases D1; replace i5 := eq_true i5; replace i6 := eq_true i6
         go_wp2
         go_meet
         case rel => exact ⟨_, (((rdOf ByteArray.empty a6 a4).toList != ([120] : List UInt8))), zS, (by first | exact H' | (subst_vars; exact H')), ⟨by have := d6.out; have := e5.out; have := f1.out; first | omega | exact Nat.le_refl _⟩, ⟨zR b0.out⟩, ⟨zR a2.out⟩, ⟨zR a7.out⟩, ⟨zK a3.out⟩, ⟨zK a5.out⟩, ⟨zK a1.out⟩, ⟨zW HB.out⟩⟩
        (first | rw [d7] | (simp only [i64_w, i32_w]; rw [d7]) | skip)
        have H' := zA H; clear H; have O2 := b6.out; have O3 := b5.out; have O4 := b8.out; have O5 := b7.out; obtain ⟨x5, x6, x7, x8, x9, y0, y1, y2, y3, y4, y5, y6⟩ := ze6 a1.out
        go_wp2
        go_meet
        case rel => exact ⟨_, (false), zS, (by first | exact H' | (subst_vars; exact H')), ⟨by have := d6.out; have := e5.out; have := f1.out; first | omega | exact Nat.le_refl _⟩, ⟨zR b0.out⟩, ⟨zR a2.out⟩, ⟨zR a7.out⟩, ⟨zK a3.out⟩, ⟨zK a5.out⟩, ⟨zK a1.out⟩, ⟨zW HB.out⟩⟩
       case rest =>
        clear p3
        try clear c1
        try clear p1
        try clear q1
        try clear hx1
        try clear c2
        try clear p2
        try clear c3
        try clear c7
        try clear c10
        try clear c11
        try clear c12
        try clear c15
        try clear c18
        try clear c19
        try clear p19
        try clear q19
        try clear hx19
        try clear d0
        try clear d1
        try clear i4
        try clear c25
        try clear c26
        try clear c28
        try clear c31
        try clear d7
        try clear c32
        try clear v1
        try clear c33
        try clear c34
        try clear c36
        try clear c37
        try clear g3 g4 g5 g6 g7 g8 g9 h0
        try clear h1 h2 h3 h4 h5 h6 h7 h8 h9 i0 i1 i2
        try clear j5 j6 j7 j8 j9 k0 k1 k2 k4 k6 k7 k8
        try clear l2 l3 l4 l5 l6 l7 l8 l9 m0 m1 m2 m3
        try clear m4 m5 m6 m7 m8 m9 n0 n1 n2 n3 n4 n5
        try clear v2 v3 v4 v5 v6 v7 v8 v9 x0 x1 x2 x3
        try clear x5 x6 x7 x8 x9 y0 y1 y2 y3 y4 y5 y6
        try clear f5 f6 f7 f8 f9 g0 g1 g2
        try clear x4
        try clear i5
        try clear p2
        try clear i6
        obtain ⟨kq, p5, rfl, HA, n6, b0, a2, a7, a3, a5, a1, HB⟩ := hcut
        cases kq with
        | zero => exact absurd HA.out (by simp [spec_l4Read.j3])
        | succ f2 =>
         have H := HA.out; clear HA; simp only [spec_l4Read.j3] at H; replace H := zB0 H
         rcases H with ⟨rfl, H⟩ | ⟨rfl, H⟩
         ·replace H := zD0 H; obtain ⟨D2, H⟩ := H; replace H := zD0 H; obtain ⟨D3, H⟩ := H; replace H := Option.bind_eq_some_iff.mp H; obtain ⟨⟨i7, O6⟩, y7, H⟩ := H
          try dsimp only at H
          have y8 := zA y7; clear y7; replace H := zB0 H
          rcases H with ⟨rfl, H⟩ | ⟨rfl, H⟩
          ·replace H := zD0 H; obtain ⟨D4, H⟩ := H; obtain ⟨p7, p8⟩ : ∃ y_ : List Int, y_ = (a8.set (a4 : Int).toNat i7) := ⟨_, rfl⟩; replace H : (spec_l4Read.l0 f2 a6 p7 0 0 0 (wrap64 (a4 + 1)) false) = some (r1, r2, r3, r4, r5, r6) := zY p8 H; have D5 := zA p8; clear p8; have H' := zA H; clear H; have O7 := b6.out; have O8 := b5.out; have O9 := b8.out; have P0 := b7.out; obtain ⟨y9, z0, z1, z2, z3, z4, z5, z6, z7, z8, z9, A0⟩ := ze6 a1.out; have d4 : 0 ≤ (a4 : Int) := zD; have d5 : a4 < (a6.length : Int) := zD; obtain ⟨D6, p9, A1⟩ := Kd.at_string (Kd.R_reads' b0.out).2.2 a4 d4 d5; cases p9; replace d4 := eq_true d4; replace d5 := eq_true d5
           go_wp2_with (first | ((with_reducible refine zq 152 ?_); refine zg (some 46) Tryz.func152 #[.string (rdOf ByteArray.empty a6 a4), .int .i64 9999] ?_; (with_reducible refine (spec_ParseNum.calls f2 (rdOf ByteArray.empty a6 a4) 9999 i7 true _ y8.out).mono ?_); rintro e w' ⟨rfl, ⟨nd, rfl⟩⟩; refine ⟨_, rfl, ?_⟩; (try (rw [drewN_self wc]; generalize hq_ : World.drewN wc _ = wc; replace a7 := zA (zh4 hq_.symm (zR a7.out)); replace b0 := zA (zh4 hq_.symm (zR b0.out)); replace a2 := zA (zh4 hq_.symm (zR a2.out)); replace a3 := zA (zh1 hq_.symm (zK a3.out)); replace a5 := zA (zh1 hq_.symm (zK a5.out)); replace a1 := zA (zh1 hq_.symm (zK a1.out)); replace HB := zA (zh2 hq_.symm (zW HB.out)); clear hq_)); (try (obtain ⟨y9, z0, z1, z2, z3, z4, z5, z6, z7, z8, z9, A0⟩ := ze6 a1.out)); have i8 : 0 ≤ (a4 : Int) := zD; have i9 : (a4 : Int) < ((a8.length : Int) : Int) := zD; obtain ⟨j2, q0, A3, A4, D7, P1, A5⟩ := Kd.R_form a2.out (by omega); (first | cases A3 | (injection A3 with ea_ en_ ec_; (first | subst ea_ | (injection ea_ with ea_; subst ea_)); subst ec_; clear en_)); have D8 := zA A4; have P2 := zA A5; clear A4 D7 A5; obtain ⟨D9, P3⟩ := Kd.R_celln 0 a2.out (a4 : Int) i8 i9; replace i8 := eq_true i8; replace i9 := eq_true i9; obtain ⟨P4, P5⟩ := Kd.R_celln 0 a2.out (a4 : Int) (zD) (zD); have q2 := Kd.R_putg a2.out (a4 : Int) i7) | ((with_reducible refine gate_store (t := 3) (p := 56) rfl ?_); refine store_event (t := 3) (p := 56) (v := ?vo_w50) (w1 := (wc.setCell ⟨j2, (a4 : Int).toNat, none⟩ (.int .i64 i7))) ?hg ?ho ?hn ?hr ?_; (case ho => rfl); (case hg => rfl); (case hn => rfl); (case hr => first | (go_simp; done) | (go_simp; rfl)); intro q3 hw; have hg : wc.grownBy q3 (some j2) := (by rw [hw]; exact q2.2); have hp_ : Kd.R (Kd.int .i64) 3 q3 w.heap.size (fun _ => True) (.slice (some ⟨j2, 0, none⟩) a8.length q0) p7 := (by rw [hw, D5.out]; exact q2.1); clear q2; replace b0 := zA (Kd.R_over' (v := (.slice (some ⟨j2, 0, none⟩) a8.length q0)) (zR b0.out) (Kd.R_typed a2.out) (by decide) hg); replace a7 := zA (Kd.R_over' (v := (.slice (some ⟨j2, 0, none⟩) a8.length q0)) (zR a7.out) (Kd.R_typed a2.out) (by decide) hg); replace a3 := zA (blk_grown (g := b4) (o := .cells #[.int .i64 e6, .int .i64 e7, .int .i64 e8, .slice none 0 0, .int .i64 e9, .bool f0] 169 (0, 0)) (zK a3.out) hg (Kd.R_ne a2.out a3.out (by decide))); replace a5 := zA (blk_grown (g := c8) (o := .cells #[.int .i64 b9, .int .i64 c0, .int .i64 c6, .slice b1 a9.length b2] 32 (0, 0)) (zK a5.out) hg (Kd.R_ne a2.out a5.out (by decide))); replace a1 := zA (blk_grown (g := b3) (o := .cells #[.int .i64 0, .int .i64 0, .int .i64 0, .slice none 0 0, .int .i64 a4, .bool false] 169 (0, 0)) (zK a1.out) hg (Kd.R_ne a2.out a1.out (by decide))); replace a2 := zA (hp_); replace HB := zA ((by rw [hw]; exact below_set (HB.out) D8.out : Below w.heap.size w q3)); clear hg hw hp_; obtain ⟨E0, E1, E2, E3, E4, E5, E6, E7, E8, E9, F0, F1⟩ := ze6 a1.out))
           go_roundg f2
           case measure => have := d6.out; have := e5.out; have := f1.out; have := n6.out; omega
           case rel => exact ⟨(p7), (e6), (e7), (e8), (e9), (f0), (wrap64 (a4 + 1)), H', ⟨by have := d6.out; have := e5.out; have := f1.out; have := n6.out; omega⟩, ⟨zR (zr1 b0.out a1.out)⟩, ⟨zR (Kd.R_mono (Kd.R_far (p := ⟨b3, 4, none⟩) (Kd.R_types a2.out a1.out (by decide)) (fun _ hk => hk.2) (.int .i64 (wrap64 (a4 + 1)))) (fun _ hk => trivial))⟩, ⟨zR (zr1 a7.out a1.out)⟩, ⟨zK a3.out⟩, ⟨zK a5.out⟩, ⟨by (with_reducible repeat (first | refine blk_drewN ?_ _ | refine blk_drew ?_ | refine blk_alloc ?_ _)); refine blk_put (cs := #[.int .i64 0, .int .i64 0, .int .i64 0, .slice none 0 0, .int .i64 a4, .bool false]) ?_ 4 _ rfl; (with_reducible repeat (first | refine blk_drewN ?_ _ | refine blk_drew ?_ | refine blk_alloc ?_ _)); exact a1.out⟩, ⟨zW HB.out⟩⟩
          simp only [zU] at H; obtain ⟨rfl, rfl, rfl, rfl, rfl, rfl⟩ := H; have P6 := b6.out; have P7 := b5.out; have P8 := b8.out; have P9 := b7.out; obtain ⟨A6, A7, A8, A9, B0, B1, B2, B3, B4, B5, B6, B7⟩ := ze6 a1.out; have d4 : 0 ≤ (a4 : Int) := zD; have d5 : a4 < (a6.length : Int) := zD; obtain ⟨D6, p9, A1⟩ := Kd.at_string (Kd.R_reads' b0.out).2.2 a4 d4 d5; cases p9; replace d4 := eq_true d4; replace d5 := eq_true d5
          go_wp2_with (first | ((with_reducible refine zq 152 ?_); refine zg (some 46) Tryz.func152 #[.string (rdOf ByteArray.empty a6 a4), .int .i64 9999] ?_; (with_reducible refine (spec_ParseNum.calls f2 (rdOf ByteArray.empty a6 a4) 9999 i7 false _ y8.out).mono ?_); rintro e w' ⟨rfl, ⟨nd, rfl⟩⟩; refine ⟨_, rfl, ?_⟩; (try (rw [drewN_self wc]; generalize hq_ : World.drewN wc _ = wc; replace a7 := zA (zh4 hq_.symm (zR a7.out)); replace b0 := zA (zh4 hq_.symm (zR b0.out)); replace a2 := zA (zh4 hq_.symm (zR a2.out)); replace a3 := zA (zh1 hq_.symm (zK a3.out)); replace a5 := zA (zh1 hq_.symm (zK a5.out)); replace a1 := zA (zh1 hq_.symm (zK a1.out)); replace HB := zA (zh2 hq_.symm (zW HB.out)); clear hq_)); (try (obtain ⟨A6, A7, A8, A9, B0, B1, B2, B3, B4, B5, B6, B7⟩ := ze6 a1.out)); have Q0 := e2.out; have Q1 := e3.out; obtain ⟨F2, F3, F4, F5, F6, F7, F8, F9, G0, G1, G2, G3⟩ := ze6 a3.out))
          refine bodyPost_ret (results_cell_row rfl _ _ b4 169 #[.int .i64 0, .int .i64 0, .int .i64 0, .slice none 0 0, .int .i64 0, .bool false] (0, 0) _ rfl (zk6 a3.out) Tryz.underlying169 rfl (by kernel_rfl)) rfl ?_
          exact ⟨_, zE, by first | exact Kd.R_nil _ _ _ _ _ | exact Kd.N_nil _ _ _ _ _ | exact Kd.V_nil _ _ _ _ _ | exact Kd.Q_nil _ _ _ _ _ | exact Kd.S_nil _ _ _ _ _, zW HB.out⟩
         have H' := zA H; clear H; have Q2 := b6.out; have Q3 := b5.out; have Q4 := b8.out; have Q5 := b7.out; obtain ⟨G4, G5, G6, G7, G8, G9, I0, I1, I2, I3, I4, I5⟩ := ze6 a1.out
         go_wp2
         go_loopg [10] f2 (fun kq I6 w' => ∃ (c9 : Int) (q5 : Int) (q6 : Int) (q7 : Int) (q8 : Int) (q9 : Bool), I6 = .int .i64 c9 ∧ Aside0 (spec_l4Read.l1 kq a6 a8 c9 0 0 0 a4 false = some (r1, r2, r3, r4, r5, r6)) ∧ Aside0 (kq ≤ f2) ∧ Aside0 (Kd.R Kd.string 9 w' w.heap.size (fun k_ => some k_ ≠ ((.slice b1 a9.length b2) : Value).ownBlock) (.slice d2 a6.length d3) a6) ∧ Aside0 (Kd.R (Kd.int .i64) 3 w' w.heap.size (fun _ => True) k9 a8) ∧ Aside0 (Kd.R Kd.string 9 w' w.heap.size (fun k_ => some k_ ≠ ((.slice d2 a6.length d3) : Value).ownBlock) (.slice b1 a9.length b2) a9) ∧ Aside0 (w'.heap[b4]? = some (.cells #[.int .i64 q5, .int .i64 q6, .int .i64 q7, (.slice none 0 0), .int .i64 q8, .bool q9] 169 (0, 0))) ∧ Aside0 (w'.heap[c8]? = some (.cells #[.int .i64 b9, .int .i64 c0, .int .i64 c6, (.slice b1 a9.length b2)] 32 (0, 0))) ∧ Aside0 (w'.heap[b3]? = some (.cells #[.int .i64 0, .int .i64 0, .int .i64 0, (.slice none 0 0), .int .i64 a4, .bool false] 169 (0, 0))) ∧ Aside0 (Below w.heap.size w w'))
         case atStart => exact ⟨(a4), (e6), (e7), (e8), (e9), (f0), zS, H', ⟨Nat.le_refl _⟩, ⟨zR b0.out⟩, ⟨zR a2.out⟩, ⟨zR a7.out⟩, ⟨zK a3.out⟩, ⟨zK a5.out⟩, ⟨zK a1.out⟩, ⟨zW HB.out⟩⟩
         case round =>
          clear H'
          try clear c1
          try clear p1
          try clear q1
          try clear hx1
          try clear c2
          try clear p2
          try clear c3
          try clear c4
          try clear p4
          try clear q4
          try clear hx4
          try clear hf4
          try clear c5
          try clear p6
          try clear c7
          try clear c10
          try clear c11
          try clear c12
          try clear c15
          try clear c18
          try clear c19
          try clear p19
          try clear q19
          try clear hx19
          try clear d0
          try clear d1
          try clear i4
          try clear c25
          try clear c26
          try clear c28
          try clear c31
          try clear d7
          try clear c32
          try clear v1
          try clear c33
          try clear c34
          try clear c36
          try clear c37
          try clear c39
          try clear c40
          try clear D2
          try clear c41
          try clear D3
          try clear c43
          try clear c44
          try clear D4
          try clear i8
          try clear i9
          try clear hx45
          try clear hf45
          try clear c46
          try clear c47
          try clear c52
          try clear c53
          try clear c55
          try clear c57
          try clear c58
          try clear g3 g4 g5 g6 g7 g8 g9 h0
          try clear h1 h2 h3 h4 h5 h6 h7 h8 h9 i0 i1 i2
          try clear j5 j6 j7 j8 j9 k0 k1 k2 k4 k6 k7 k8
          try clear l2 l3 l4 l5 l6 l7 l8 l9 m0 m1 m2 m3
          try clear m4 m5 m6 m7 m8 m9 n0 n1 n2 n3 n4 n5
          try clear v2 v3 v4 v5 v6 v7 v8 v9 x0 x1 x2 x3
          try clear x5 x6 x7 x8 x9 y0 y1 y2 y3 y4 y5 y6
          try clear y9 z0 z1 z2 z3 z4 z5 z6 z7 z8 z9 A0
          try clear E0 E1 E2 E3 E4 E5 E6 E7 E8 E9 F0 F1
          try clear A6 A7 A8 A9 B0 B1 B2 B3 B4 B5 B6 B7
          try clear F2 F3 F4 F5 F6 F7 F8 F9 G0 G1 G2 G3
          try clear G4 G5 G6 G7 G8 G9 I0 I1 I2 I3 I4 I5
          try clear f5 f6 f7 f8 f9 g0 g1 g2
          try clear x4
          try clear A1
          try clear D9
          try clear p1
          try clear p19
          try clear i5
          try clear d4
          try clear p2
          try clear i8
          try clear q1
          try clear q19
          try clear i6
          try clear d5
          try clear i9
          obtain ⟨c9, q5, q6, q7, q8, q9, rfl, HA, B8, b0, a2, a7, a3, a5, a1, HB⟩ := hrel
          cases gk with
          | zero => exact absurd HA.out (by simp [spec_l4Read.l1])
          | succ k5 =>
           have H := HA.out; clear HA; simp only [spec_l4Read.l1] at H; replace H := zI0 H
           rcases H with ⟨I7, H⟩ | ⟨I7, H⟩
           ·replace H := zD0 H; obtain ⟨Q6, H⟩ := H; replace H := zI1 H
            rcases H with ⟨f3, H⟩ | ⟨f3, H⟩
            ·have I8 := beq_iff_eq.mpr f3; have I9 := bne_eq_false_iff_eq.mpr f3; clear f3; have H' := zA H; clear H; have d8 : 0 ≤ (c9 : Int) := zD; have d9 : c9 < (a6.length : Int) := zD; obtain ⟨J0, r0, J1⟩ := Kd.at_string (Kd.R_reads' b0.out).2.2 c9 d8 d9; cases r0; replace d8 := eq_true d8; replace d9 := eq_true d9
             go_wp2
             go_roundg k5
             case measure => have := d6.out; have := e5.out; have := f1.out; have := n6.out; have := B8.out; omega
             case rel => exact ⟨(wrap64 (c9 + 1)), (q5), (q6), (q7), (q8), (q9), zS, H', ⟨by have := d6.out; have := e5.out; have := f1.out; have := n6.out; have := B8.out; omega⟩, ⟨zR b0.out⟩, ⟨zR a2.out⟩, ⟨zR a7.out⟩, ⟨zK a3.out⟩, ⟨zK a5.out⟩, ⟨zK a1.out⟩, ⟨zW HB.out⟩⟩
            have I8 := beq_eq_false_iff_ne.mpr f3; have I9 := bne_iff_ne.mpr f3; simp only [zU] at H; obtain ⟨rfl, rfl, rfl, rfl, rfl, rfl⟩ := H; have d8 : 0 ≤ (c9 : Int) := zD; have d9 : c9 < (a6.length : Int) := zD; obtain ⟨J0, r0, J1⟩ := Kd.at_string (Kd.R_reads' b0.out).2.2 c9 d8 d9; cases r0; replace d8 := eq_true d8; replace d9 := eq_true d9; have Q7 := e2.out; have Q8 := e3.out; have Q9 := b5.out; have R0 := b6.out; obtain ⟨R1, R2, R3, R4, R5, R6, R7, R8, R9, T0, T1, T2⟩ := ze6 a3.out
            go_wp2
            refine bodyPost_ret (results_cell_row rfl _ _ b4 169 #[.int .i64 0, .int .i64 0, .int .i64 0, .slice none 0 0, .int .i64 0, .bool false] (0, 0) _ rfl (zk6 a3.out) Tryz.underlying169 rfl (by kernel_rfl)) rfl ?_
            exact ⟨_, zE, by first | exact Kd.R_nil _ _ _ _ _ | exact Kd.N_nil _ _ _ _ _ | exact Kd.V_nil _ _ _ _ _ | exact Kd.Q_nil _ _ _ _ _ | exact Kd.S_nil _ _ _ _ _, zW HB.out⟩
           replace H := zC0 H; obtain ⟨B9, H⟩ := H; have T3 := decide_eq_true B9; have T4 : decide (0 < a8.length) = true := decide_eq_true (by omega); clear B9; replace H := zC0 H; obtain ⟨C0, H⟩ := H; have T5 := decide_eq_true C0; have T6 : decide (1 < a8.length) = true := decide_eq_true (by omega); clear C0; replace H := zC0 H; obtain ⟨C1, H⟩ := H; have T7 := decide_eq_true C1; have T8 : decide (2 < a8.length) = true := decide_eq_true (by omega); clear C1; replace H := Option.bind_eq_some_iff.mp H; obtain ⟨C2, C3, H⟩ := H
           try dsimp only at H
           have J2 := zA C3; clear C3; simp only [zU] at H; obtain ⟨rfl, rfl, rfl, rfl, rfl, rfl⟩ := H
           try go_wp2
           replace b0 := zA (Kd.R_drew b0.out); replace a2 := zA (Kd.R_drew a2.out); replace a7 := zA (Kd.R_drew a7.out); replace a3 := zA (blk_drew a3.out); replace a5 := zA (blk_drew a5.out); replace a1 := zA (blk_drew a1.out); replace HB := zA (below_drew1 HB.out); obtain ⟨T9, U0, C4⟩ := Kd.R_slice a2.out
           (first | subst C4 | (injection C4 with f1_ f2_ f3_; have J3 := f1_.symm; have J4 := f3_.symm; clear f1_ f2_ f3_; subst J3; subst J4))
           have r7 : 0 ≤ (0 : Int) := (by omega); have r8 : 0 < (a8.length : Int) := zD; obtain ⟨e0, J5, r9⟩ := Kd.at_int (Kd.R_reads' a2.out).2.2 0 r7 r8; cases J5; have U1 : (0 < a8.length) = True := eq_true (by omega)
           (try rw [show ((0 : Int)).toNat = 0 from rfl] at r9)
           (try rw [Addr.add_zero'] at r9)
           replace r7 := eq_true r7; replace r8 := eq_true r8; have t0 : 0 ≤ (1 : Int) := (by omega); have t1 : 1 < (a8.length : Int) := zD; obtain ⟨J6, J7, t2⟩ := Kd.at_int (Kd.R_reads' a2.out).2.2 1 t0 t1; obtain rfl : e0 = J6 := (by injection J7)
           (try simp only [show (1 : Int).toNat = 1 from rfl, Nat.reduceMul, Nat.reduceEqDiff, Go.Addr.add, ↓reduceIte] at t2)
           have U2 : (1 < a8.length) = True := eq_true (by omega)
           (try rw [show ((1 : Int)).toNat = 1 from rfl] at t2)
           replace t0 := eq_true t0; replace t1 := eq_true t1; have t3 : 0 ≤ (2 : Int) := (by omega); have t4 : 2 < (a8.length : Int) := zD; obtain ⟨J8, J9, t5⟩ := Kd.at_int (Kd.R_reads' a2.out).2.2 2 t3 t4; obtain rfl : e0 = J8 := (by injection J9)
           (try simp only [show (2 : Int).toNat = 2 from rfl, Nat.reduceMul, Nat.reduceEqDiff, Go.Addr.add, ↓reduceIte] at t5)
           have U3 : (2 < a8.length) = True := eq_true (by omega)
           (try rw [show ((2 : Int)).toNat = 2 from rfl] at t5)
           replace t3 := eq_true t3; replace t4 := eq_true t4
           refine start_ (n := 12) (S := fun w' => w'.cell? e0 = some (.int .i64 (rd a8 0)) ∧ w'.cell? ⟨e0.block, e0.off + 1, none⟩ = some (.int .i64 (rd a8 1)) ∧ w'.cell? ⟨e0.block, e0.off + 2, none⟩ = some (.int .i64 (rd a8 2))) (ds := []) (Array.replicate 12 false) (by kernel_rfl) rfl rfl zO fun hHeld => ?_; refine with_tabW spec_l4Read.tab20 spec_l4Read.bits20 (fun HT_ HW_ => ?_)
           generalize wr.drew = U4 at b0 a2 a7 a3 a5 a1 HB r9 t2 t5 hHeld ⊢; refine zp 0 75 ?_; refine zp 1 76 ?_; refine zp 3 78 ?_; refine zp 4 79 ?_; refine zp 6 81 ?_; refine zp 7 82 ?_; refine zt 2 77 ?_; refine zt 5 80 ?_; refine zt 8 83 ?_; refine zp 9 84 ?_; refine zp 10 85 ?_
           refine zo 11 none fun K hK => ?_
           have U5 := zc0 a1.out; have U6 := zF a1.out 0; have U7 := b5.out; have U8 := b7.out; have U9 := b6.out; have V0 := b8.out; have V1 := zc1 a1.out; have V2 := zF a1.out 1; have V3 := b5.out; have V4 := b7.out; have V5 := b6.out; have V6 := b8.out; have V7 := zc2 a1.out; have V8 := zF a1.out 2; have V9 := b5.out; have X0 := b7.out; have X1 := b6.out; have X2 := b8.out; have X3 := zc3 a1.out; have X4 := zF a1.out 3; have X5 := b5.out; have X6 := b7.out; have X7 := b6.out; have X8 := b8.out
           refine skip_ (w1 := ?_) (by rfl) rfl ?_ ?_
           rotate_left
           ·go_simp
            rfl
           refine hK.out _ _ ⟨((cell_far (p := ⟨b3, _, none⟩) (by first | (rw [add_block]; exact Kd.own_blk (Kd.R_ne a2.out a1.out (by decide))) | (dsimp only; exact Kd.own_blk (Kd.R_ne a2.out a1.out (by decide))) | exact Kd.own_blk (Kd.R_ne a2.out a1.out (by decide)) | (show (Addr.add _ _).block ≠ _; rw [add_block]; exact Kd.own_blk (Kd.R_ne a2.out a1.out (by decide)))) _).trans (((cell_far (p := ⟨b3, _, none⟩) (by first | (rw [add_block]; exact Kd.own_blk (Kd.R_ne a2.out a1.out (by decide))) | (dsimp only; exact Kd.own_blk (Kd.R_ne a2.out a1.out (by decide))) | exact Kd.own_blk (Kd.R_ne a2.out a1.out (by decide)) | (show (Addr.add _ _).block ≠ _; rw [add_block]; exact Kd.own_blk (Kd.R_ne a2.out a1.out (by decide)))) _).trans (((cell_far (p := ⟨b3, _, none⟩) (by first | (rw [add_block]; exact Kd.own_blk (Kd.R_ne a2.out a1.out (by decide))) | (dsimp only; exact Kd.own_blk (Kd.R_ne a2.out a1.out (by decide))) | exact Kd.own_blk (Kd.R_ne a2.out a1.out (by decide)) | (show (Addr.add _ _).block ≠ _; rw [add_block]; exact Kd.own_blk (Kd.R_ne a2.out a1.out (by decide)))) _).trans (((cell_far (p := ⟨b3, _, none⟩) (by first | (rw [add_block]; exact Kd.own_blk (Kd.R_ne a2.out a1.out (by decide))) | (dsimp only; exact Kd.own_blk (Kd.R_ne a2.out a1.out (by decide))) | exact Kd.own_blk (Kd.R_ne a2.out a1.out (by decide)) | (show (Addr.add _ _).block ≠ _; rw [add_block]; exact Kd.own_blk (Kd.R_ne a2.out a1.out (by decide)))) _).trans (hHeld.1)))))))), ((cell_far (p := ⟨b3, _, none⟩) (by first | (rw [add_block]; exact Kd.own_blk (Kd.R_ne a2.out a1.out (by decide))) | (dsimp only; exact Kd.own_blk (Kd.R_ne a2.out a1.out (by decide))) | exact Kd.own_blk (Kd.R_ne a2.out a1.out (by decide)) | (show (Addr.add _ _).block ≠ _; rw [add_block]; exact Kd.own_blk (Kd.R_ne a2.out a1.out (by decide)))) _).trans (((cell_far (p := ⟨b3, _, none⟩) (by first | (rw [add_block]; exact Kd.own_blk (Kd.R_ne a2.out a1.out (by decide))) | (dsimp only; exact Kd.own_blk (Kd.R_ne a2.out a1.out (by decide))) | exact Kd.own_blk (Kd.R_ne a2.out a1.out (by decide)) | (show (Addr.add _ _).block ≠ _; rw [add_block]; exact Kd.own_blk (Kd.R_ne a2.out a1.out (by decide)))) _).trans (((cell_far (p := ⟨b3, _, none⟩) (by first | (rw [add_block]; exact Kd.own_blk (Kd.R_ne a2.out a1.out (by decide))) | (dsimp only; exact Kd.own_blk (Kd.R_ne a2.out a1.out (by decide))) | exact Kd.own_blk (Kd.R_ne a2.out a1.out (by decide)) | (show (Addr.add _ _).block ≠ _; rw [add_block]; exact Kd.own_blk (Kd.R_ne a2.out a1.out (by decide)))) _).trans (((cell_far (p := ⟨b3, _, none⟩) (by first | (rw [add_block]; exact Kd.own_blk (Kd.R_ne a2.out a1.out (by decide))) | (dsimp only; exact Kd.own_blk (Kd.R_ne a2.out a1.out (by decide))) | exact Kd.own_blk (Kd.R_ne a2.out a1.out (by decide)) | (show (Addr.add _ _).block ≠ _; rw [add_block]; exact Kd.own_blk (Kd.R_ne a2.out a1.out (by decide)))) _).trans (hHeld.2.1)))))))), ((cell_far (p := ⟨b3, _, none⟩) (by first | (rw [add_block]; exact Kd.own_blk (Kd.R_ne a2.out a1.out (by decide))) | (dsimp only; exact Kd.own_blk (Kd.R_ne a2.out a1.out (by decide))) | exact Kd.own_blk (Kd.R_ne a2.out a1.out (by decide)) | (show (Addr.add _ _).block ≠ _; rw [add_block]; exact Kd.own_blk (Kd.R_ne a2.out a1.out (by decide)))) _).trans (((cell_far (p := ⟨b3, _, none⟩) (by first | (rw [add_block]; exact Kd.own_blk (Kd.R_ne a2.out a1.out (by decide))) | (dsimp only; exact Kd.own_blk (Kd.R_ne a2.out a1.out (by decide))) | exact Kd.own_blk (Kd.R_ne a2.out a1.out (by decide)) | (show (Addr.add _ _).block ≠ _; rw [add_block]; exact Kd.own_blk (Kd.R_ne a2.out a1.out (by decide)))) _).trans (((cell_far (p := ⟨b3, _, none⟩) (by first | (rw [add_block]; exact Kd.own_blk (Kd.R_ne a2.out a1.out (by decide))) | (dsimp only; exact Kd.own_blk (Kd.R_ne a2.out a1.out (by decide))) | exact Kd.own_blk (Kd.R_ne a2.out a1.out (by decide)) | (show (Addr.add _ _).block ≠ _; rw [add_block]; exact Kd.own_blk (Kd.R_ne a2.out a1.out (by decide)))) _).trans (((cell_far (p := ⟨b3, _, none⟩) (by first | (rw [add_block]; exact Kd.own_blk (Kd.R_ne a2.out a1.out (by decide))) | (dsimp only; exact Kd.own_blk (Kd.R_ne a2.out a1.out (by decide))) | exact Kd.own_blk (Kd.R_ne a2.out a1.out (by decide)) | (show (Addr.add _ _).block ≠ _; rw [add_block]; exact Kd.own_blk (Kd.R_ne a2.out a1.out (by decide)))) _).trans (hHeld.2.2))))))))⟩ (fun hHeld => ?_)
           clear hK K
           refine done_ (done_of HT_.out (by kernel_rfl)) ?_
           have X9 := b6.out; have Y0 := b5.out; have Y1 := b8.out; have Y2 := b7.out; obtain ⟨Y3, Y4, Y5, Y6, Y7, Y8, Y9, Z0, Z1, Z2, Z3, Z4⟩ := ze6 a1.out
           try go_wp2_with (first | ((with_reducible refine zq 104 ?_); refine zg (some 88) Tryz.func104 #[.int .i64 a4, .int .i64 1, .int .i64 2] ?_; (with_reducible refine (spec_l1In.calls a4 1 2 C2 _ J2.out).mono ?_); rintro e w' ⟨rfl, ⟨nd, rfl⟩⟩; refine ⟨_, rfl, ?_⟩; have Z5 := e2.out; have Z6 := e3.out; obtain ⟨Z7, Z8, Z9, a00, a01, a02, a03, a04, a05, a06, a07, a08⟩ := ze6 a3.out))
           refine bodyPost_ret (results_cell_row rfl _ _ b4 169 #[.int .i64 (rd a8 0), .int .i64 (rd a8 1), .int .i64 (rd a8 2), .slice none 0 0, .int .i64 a4, .bool C2] (0, 0) _ rfl (zk6 a3.out) Tryz.underlying169 rfl (by kernel_rfl)) rfl ?_
           exact ⟨_, zE, by first | exact Kd.R_nil _ _ _ _ _ | exact Kd.N_nil _ _ _ _ _ | exact Kd.V_nil _ _ _ _ _ | exact Kd.Q_nil _ _ _ _ _ | exact Kd.S_nil _ _ _ _ _, zW HB.out⟩
/-! ### spec_l4From: function 177 -/
def spec_l4From.f (a0 a1 a2 : Int) (a3 : List ByteArray) (a4 : Int) (a5 : Bool) : Option (Int × Int × Int × Int × List ByteArray) := some (4, a0, a1, a2, a3)
theorem spec_l4From.calls (a5 a6 a7 : Int) (a8 : Nat → Prop) (a1 : Option Addr) (a2 : Nat) (a0 : List ByteArray) (a9 : Int) (b0 : Bool) (r1 r2 r3 r4 : Int) (r5 : List ByteArray) (w : World) (b4 : Kd.V Kd.string 9 w w.heap.size (fun k_ => a8 k_) (.slice a1 a0.length a2) a0) (h : spec_l4From.f a5 a6 a7 a0 a9 b0 = some (r1, r2, r3, r4, r5)) :
  Calls Tryz.prog 177 #[.agg #[.int .i64 a5, .int .i64 a6, .int .i64 a7, .slice a1 a0.length a2, .int .i64 a9, .bool b0]] w fun e w' => ∃ b1 : Value, e = .returned (.agg #[.int .i64 r1, .int .i64 r2, .int .i64 r3, .int .i64 r4, b1]) ∧ Kd.V Kd.string 9 w' w.heap.size (fun k_ => (a8 k_ ∨ w.heap.size ≤ k_)) b1 r5 ∧ Below w.heap.size w w' := by
 have b8 := Tryz.underlying169
 have b9 := Tryz.underlying75
 have c0 := Tryz.underlying32
 have a3 := zA (show Kd.V Kd.string 9 w w.heap.size (fun k_ => (a8 k_ ∨ w.heap.size ≤ k_)) (.slice a1 a0.length a2) a0 from Kd.V_mono b4 (fun k_ hk => .inl hk))
 have HB := zA (Below.refl w.heap.size w)
 unfold spec_l4From.f at h
 have H := h
 clear h
 simp only [zU] at H
 obtain ⟨rfl, rfl, rfl, rfl, rfl⟩ := H
 go_enter Tryz.func177, Tryz.ntmps177
 go_wp2_with (first | ((with_reducible refine zd 1 ?_); refine ze 1 169 #[.int .i64 a5, .int .i64 a6, .int .i64 a7, .slice a1 a0.length a2, .int .i64 a9, .bool b0] ?_; intro b5 hg w2 hbox hb; replace a3 := zA (Kd.V_below (Kd.V_elderB (zV a3.out) b5 (Nat.le_of_eq hg.symm)) hb); have a4 := zA (hbox); have c1 := zi HB hg; have c2 := zi HB hg; replace HB := zA (below_step (zB) hb); clear hb hbox hg) | ((with_reducible refine zd 2 ?_); refine ze 2 75 #[.int .i64 0, .int .i64 0, .int .i64 0, .int .i64 0, .slice none 0 0] ?_; intro b2 hg w3 hbox hb; replace a3 := zA (Kd.V_below (Kd.V_elderB (zV a3.out) b2 (Nat.le_of_eq hg.symm)) hb); have b3 := zA (hbox); have c3 := zi HB hg; have c4 := zi HB hg; replace HB := zh HB hb; have b6 := zA (zL hg (zK a4.out)); have b7 := zA (zJ hg (zK a4.out)); replace a4 := zb a4 hb; clear hb hbox hg; have c5 := b6.out; have c6 := b7.out; obtain ⟨c7, c8, c9, d0, d1, d2, d3, d4, d5, d6, d7, d8⟩ := ze6 a4.out; obtain ⟨d9, e0, e1, e2, e3, e4, e5, e6, e7, e8⟩ := ze5 b3.out))
 refine bodyPost_ret (results_cell_row rfl _ _ b2 75 #[.int .i64 4, .int .i64 a5, .int .i64 a6, .int .i64 a7, .slice a1 a0.length a2] (0, 0) _ rfl (zk5 b3.out) Tryz.underlying75 rfl (by kernel_rfl)) rfl ?_
 exact ⟨_, zE, zVt (Kd.V_mono (zv5 a3.out (fun _ hk => hk.2)) (fun _ hk => hk.1.1)), zW HB.out⟩
/-! ### spec_l4Below: function 178 -/
def spec_l4Below.f (a0 a1 a2 : Int) (a3 : List ByteArray) : Option (Int × Int × Int × Int × List ByteArray) := some (1, a0, a1, a2, (([(⟨#[48]⟩ : ByteArray)] : List ByteArray)))
theorem spec_l4Below.calls (a1 a2 a3 : Int) (a9 : Option Addr) (b0 : Nat) (a4 : List ByteArray) (r1 r2 r3 r4 : Int) (r5 : List ByteArray) (w : World) (b4 : Kd.C Kd.string w a9 a4.length a4) (b5 : a4.length ≤ b0) (h : spec_l4Below.f a1 a2 a3 a4 = some (r1, r2, r3, r4, r5)) :
  Calls Tryz.prog 178 #[.agg #[.int .i64 a1, .int .i64 a2, .int .i64 a3, .slice a9 a4.length b0]] w fun e w' => ∃ b6 : Value, e = .returned (.agg #[.int .i64 r1, .int .i64 r2, .int .i64 r3, .int .i64 r4, b6]) ∧ Kd.R Kd.string 9 w' w.heap.size (fun _ => True) b6 r5 ∧ Below w.heap.size w w' := by
 have c3 := Tryz.underlying32
 have c4 := Tryz.underlying75
 have c5 := zA b4
 have c6 := zA b5
 clear b4 b5
 have HB := zA (Below.refl w.heap.size w)
 unfold spec_l4Below.f at h
 have H := h
 clear h
 obtain ⟨a8, b1⟩ : ∃ y_ : List ByteArray, y_ = (([(⟨#[48]⟩ : ByteArray)] : List ByteArray)) := ⟨_, rfl⟩
 replace H : (some (1, a1, a2, a3, a8)) = some (r1, r2, r3, r4, r5) := zY b1 H
 have b7 := zA b1
 clear b1
 simp only [zU] at H
 obtain ⟨rfl, rfl, rfl, rfl, rfl⟩ := H
 go_enter Tryz.func178, Tryz.ntmps178
 go_wp2_with (first | ((with_reducible refine zd 1 ?_); refine ze 1 32 #[.int .i64 a1, .int .i64 a2, .int .i64 a3, .slice a9 a4.length b0] ?_; intro b9 hg w2 hbox hb; have a0 := zA (hbox); have c7 := zi HB hg; have c8 := zi HB hg; replace HB := zA (below_step (zB) hb); clear hb hbox hg) | ((with_reducible refine zd 2 ?_); refine ze 2 75 #[.int .i64 0, .int .i64 0, .int .i64 0, .int .i64 0, .slice none 0 0] ?_; intro a5 hg w3 hbox hb; have a6 := zA (hbox); have c9 := zi HB hg; have d0 := zi HB hg; replace HB := zh HB hb; have c0 := zA (zL hg (zK a0.out)); have c1 := zA (zJ hg (zK a0.out)); replace a0 := zb a0 hb; clear hb hbox hg) | ((with_reducible refine gate_dst (N := 3) rfl ?_); refine Kd.R_lit Kd.string _ 9 ?hg (N := 3) ?hd (xs := ([(⟨#[48]⟩ : ByteArray)] : List ByteArray)) (inner := [.string (⟨#[48]⟩ : ByteArray)]) (ok := fun _ => True) ?hr ?hp (fun _ hk => hk) trivial (Below.refl _ _) (Nat.le_refl _) (by simp) ?_; (case hd => rfl); (case hg => rfl); (case hr => first | (go_simp; done) | (go_simp; rfl)); (case hp => exact (Reps.one (show Kd.M Kd.string _ _ _ (⟨#[48]⟩ : ByteArray) [.string (⟨#[48]⟩ : ByteArray)] from rfl) (Reps.none _ _))); intro d1 w4 a7 hb hg_ hnew_; clear hg_ hnew_; (first | rw [← b7.out] at a7 | (simp only [Int.reduceToNat] at a7; rw [← b7.out] at a7)); have b8 := zA (Kd.R_lower a7 (below_size (zW HB.out))); replace a0 := zb a0 hb; replace a6 := zb a6 hb; replace HB := zh HB hb; clear hb a7; obtain ⟨b2, b3, c2⟩ := Kd.R_slice b8.out; subst c2; have d2 := c0.out; have d3 := c1.out; obtain ⟨d4, d5, d6, d7, d8, d9, e0, e1⟩ := ze4 a0.out; obtain ⟨e2, e3, e4, e5, e6, e7, e8, e9, f0, f1⟩ := ze5 a6.out))
 refine bodyPost_ret (results_cell_row rfl _ _ a5 75 #[.int .i64 1, .int .i64 a1, .int .i64 a2, .int .i64 a3, .slice b2 a8.length b3] (0, 0) _ rfl (zk5 a6.out) Tryz.underlying75 rfl (by kernel_rfl)) rfl ?_
 exact ⟨_, zE, zR (Kd.R_mono (Kd.R_far (p := ⟨a5, 4, none⟩) (Kd.R_far (p := ⟨a5, 3, none⟩) (Kd.R_far (p := ⟨a5, 2, none⟩) (Kd.R_far (p := ⟨a5, 1, none⟩) (Kd.R_far (p := ⟨a5, 0, none⟩) (Kd.R_far (p := ⟨b9, 3, none⟩) (Kd.R_types (Kd.R_types b8.out a0.out (by decide)) a6.out (by decide)) (fun _ hk => hk.1.2) (.slice b2 a8.length b3)) (fun _ hk => hk.2) (.int .i64 1)) (fun _ hk => hk.2) (.int .i64 a1)) (fun _ hk => hk.2) (.int .i64 a2)) (fun _ hk => hk.2) (.int .i64 a3)) (fun _ hk => hk.2) (.slice b2 a8.length b3)) (fun _ hk => trivial)), zW HB.out⟩
/-! ### spec_l4Caret: function 179 -/
def spec_l4Caret.j0 : Nat → Bool → Int → Int → Int → List ByteArray → Int → Bool → Option (Int × Int × Int × List ByteArray)
 | 0, _, _, _, _, _, _, _ => none
 | k + 1, x3, a1, a0, a2, a4, a3, a5 => if x3 = true then (some (wrap64 (a1 + 1), 0, 0, ([] : List ByteArray))) else (if a0 = 0 then (if a3 = 2 then (some (0, wrap64 (a0 + 1), 0, ([] : List ByteArray))) else (some (0, 0, wrap64 (a2 + 1), ([] : List ByteArray)))) else (some (0, wrap64 (a0 + 1), 0, ([] : List ByteArray))))
def spec_l4Caret.f (k : Nat) (a0 a2 a3 : Int) (a4 : List ByteArray) (a1 : Int) (a5 : Bool) : Option (Int × Int × Int × List ByteArray) := if a0 = 0 then (spec_l4Caret.j0 k (a1 == 1) a0 a2 a3 a4 a1 a5) else (spec_l4Caret.j0 k true a0 a2 a3 a4 a1 a5)
theorem spec_l4Caret.calls (k : Nat) (a4 a3 a5 : Int) (b4 : Option Addr) (b5 : Nat) (a2 : List ByteArray) (a6 : Int) (b2 : Bool) (r1 r2 r3 : Int) (r4 : List ByteArray) (w : World) (b8 : Kd.C Kd.string w b4 a2.length a2) (b9 : a2.length ≤ b5) (h : spec_l4Caret.f k a4 a3 a5 a2 a6 b2 = some (r1, r2, r3, r4)) :
  Calls Tryz.prog 179 #[.agg #[.int .i64 a4, .int .i64 a3, .int .i64 a5, .slice b4 a2.length b5, .int .i64 a6, .bool b2]] w fun e w' => ∃ c0 : Value, e = .returned (.agg #[.int .i64 r1, .int .i64 r2, .int .i64 r3, c0]) ∧ Kd.R Kd.string 9 w' w.heap.size (fun _ => True) c0 r4 ∧ Below w.heap.size w w' := by
 have f5 := Tryz.underlying169
 have f6 := Tryz.underlying32
 have f7 := zA b8
 have f8 := zA b9
 clear b8 b9
 have HB := zA (Below.refl w.heap.size w)
 unfold spec_l4Caret.f at h
 have H := h
 clear h
 have b6 := zA H
 clear H
 go_enter Tryz.func179, Tryz.ntmps179
 go_upto_region 1 with (first | ((with_reducible refine zd 1 ?_); refine ze 1 169 #[.int .i64 a4, .int .i64 a3, .int .i64 a5, .slice b4 a2.length b5, .int .i64 a6, .bool b2] ?_; intro c3 hg w3 hbox hb; have a0 := zA (hbox); have f9 := zi HB hg; have g0 := zi HB hg; replace HB := zA (below_step (zB) hb); clear hb hbox hg) | ((with_reducible refine zd 2 ?_); refine ze 2 32 #[.int .i64 0, .int .i64 0, .int .i64 0, .slice none 0 0] ?_; intro b3 hg w4 hbox hb; have a1 := zA (hbox); have g1 := zi HB hg; have g2 := zi HB hg; replace HB := zh HB hb; have a7 := zA (zL hg (zK a0.out)); have a8 := zA (zJ hg (zK a0.out)); replace a0 := zb a0 hb; clear hb hbox hg))
 (try simp only [Act.put, zT])
 go_cut [3] (fun v3 wc => ∃ (kq : Nat) (b7 : Bool), v3 = .bool b7 ∧ Aside0 (spec_l4Caret.j0 kq b7 a4 a3 a5 a2 a6 b2 = some (r1, r2, r3, r4)) ∧ Aside0 (kq ≤ k) ∧ Aside0 (wc.heap[c3]? = some (.cells #[.int .i64 a4, .int .i64 a3, .int .i64 a5, (.slice b4 a2.length b5), .int .i64 a6, .bool b2] 169 (0, 0))) ∧ Aside0 (wc.heap[b3]? = some (.cells #[.int .i64 0, .int .i64 0, .int .i64 0, (.slice none 0 0)] 32 (0, 0))) ∧ Aside0 (Below w.heap.size w wc))
 case first =>
  have H := b6.out; clear b6; replace H := zI1 H
  rcases H with ⟨c5, H⟩ | ⟨c5, H⟩
  ·have a9 := beq_iff_eq.mpr c5; have c2 := bne_eq_false_iff_eq.mpr c5; clear c5
   (first | rw [a9] | (simp only [i64_w, i32_w]; rw [a9]) | skip)
   have H' := zA H; clear H; have g3 := a7.out; have g4 := a8.out; obtain ⟨c4, c7, c9, d0, d1, d2, d3, d4, d5, d6, d7, d8⟩ := ze6 a0.out
   go_wp2
   go_meet
   case rel => exact ⟨_, ((a6 == 1)), zS, (by first | exact H' | (subst_vars; exact H')), ⟨by first | omega | exact Nat.le_refl _⟩, ⟨zK a0.out⟩, ⟨zK a1.out⟩, ⟨zW HB.out⟩⟩
  have a9 := beq_eq_false_iff_ne.mpr c5; have c2 := bne_iff_ne.mpr c5
  (first | rw [a9] | (simp only [i64_w, i32_w]; rw [a9]) | skip)
  have H' := zA H; clear H; have g5 := a7.out; have g6 := a8.out; obtain ⟨d9, e0, e1, e2, e3, e4, e5, e6, e7, e8, e9, f0⟩ := ze6 a0.out
  go_wp2
  go_meet
  case rel => exact ⟨_, (true), zS, (by first | exact H' | (subst_vars; exact H')), ⟨by first | omega | exact Nat.le_refl _⟩, ⟨zK a0.out⟩, ⟨zK a1.out⟩, ⟨zW HB.out⟩⟩
 case rest =>
  clear b6
  try clear c1
  try clear p2
  try clear c5
  try clear a9
  try clear c2
  try clear c6
  try clear c8
  try clear c4 c7 c9 d0 d1 d2 d3 d4 d5 d6 d7 d8
  try clear d9 e0 e1 e2 e3 e4 e5 e6 e7 e8 e9 f0
  obtain ⟨kq, b7, rfl, HA, g7, a0, a1, HB⟩ := hcut
  cases kq with
  | zero => exact absurd HA.out (by simp [spec_l4Caret.j0])
  | succ g8 =>
   have H := HA.out; clear HA; simp only [spec_l4Caret.j0] at H; replace H := zB0 H
   rcases H with ⟨rfl, H⟩ | ⟨rfl, H⟩
   ·simp only [zU] at H; obtain ⟨rfl, rfl, rfl, rfl⟩ := H; have g9 := a7.out; have h0 := a8.out; obtain ⟨h1, h2, h3, h4, h5, h6, h7, h8, h9, i0, i1, i2⟩ := ze6 a0.out; obtain ⟨i3, i4, i5, i6, i7, i8, i9, j1⟩ := ze4 a1.out
    go_wp2
    refine bodyPost_ret (results_cell_row rfl _ _ b3 32 #[.int .i64 (wrap64 (a4 + 1)), .int .i64 0, .int .i64 0, .slice none 0 0] (0, 0) _ rfl (zk4 a1.out) Tryz.underlying32 rfl (by kernel_rfl)) rfl ?_
    exact ⟨_, zE, by first | exact Kd.R_nil _ _ _ _ _ | exact Kd.N_nil _ _ _ _ _ | exact Kd.V_nil _ _ _ _ _ | exact Kd.Q_nil _ _ _ _ _ | exact Kd.S_nil _ _ _ _ _, zW HB.out⟩
   replace H := zI1 H
   rcases H with ⟨b0, H⟩ | ⟨b0, H⟩
   ·have f1 := beq_iff_eq.mpr b0; have f2 := bne_eq_false_iff_eq.mpr b0; clear b0; replace H := zI1 H
    rcases H with ⟨b1, H⟩ | ⟨b1, H⟩
    ·have f3 := beq_iff_eq.mpr b1; have f4 := bne_eq_false_iff_eq.mpr b1; clear b1; simp only [zU] at H; obtain ⟨rfl, rfl, rfl, rfl⟩ := H; have j2 := a7.out; have j3 := a8.out; obtain ⟨j4, j5, j6, j7, j8, j9, k0, k1, k2, k3, k4, k5⟩ := ze6 a0.out; obtain ⟨k6, k7, k8, k9, l0, l1, l2, l3⟩ := ze4 a1.out
     go_wp2
     refine bodyPost_ret (results_cell_row rfl _ _ b3 32 #[.int .i64 0, .int .i64 (wrap64 (a3 + 1)), .int .i64 0, .slice none 0 0] (0, 0) _ rfl (zk4 a1.out) Tryz.underlying32 rfl (by kernel_rfl)) rfl ?_
     exact ⟨_, zE, by first | exact Kd.R_nil _ _ _ _ _ | exact Kd.N_nil _ _ _ _ _ | exact Kd.V_nil _ _ _ _ _ | exact Kd.Q_nil _ _ _ _ _ | exact Kd.S_nil _ _ _ _ _, zW HB.out⟩
    have f3 := beq_eq_false_iff_ne.mpr b1; have f4 := bne_iff_ne.mpr b1; simp only [zU] at H; obtain ⟨rfl, rfl, rfl, rfl⟩ := H; have l4 := a7.out; have l5 := a8.out; obtain ⟨l6, l7, l8, l9, m0, m1, m2, m3, m4, m5, m6, m7⟩ := ze6 a0.out; obtain ⟨m8, m9, n0, n1, n2, n3, n4, n5⟩ := ze4 a1.out
    go_wp2
    refine bodyPost_ret (results_cell_row rfl _ _ b3 32 #[.int .i64 0, .int .i64 0, .int .i64 (wrap64 (a5 + 1)), .slice none 0 0] (0, 0) _ rfl (zk4 a1.out) Tryz.underlying32 rfl (by kernel_rfl)) rfl ?_
    exact ⟨_, zE, by first | exact Kd.R_nil _ _ _ _ _ | exact Kd.N_nil _ _ _ _ _ | exact Kd.V_nil _ _ _ _ _ | exact Kd.Q_nil _ _ _ _ _ | exact Kd.S_nil _ _ _ _ _, zW HB.out⟩
   have f1 := beq_eq_false_iff_ne.mpr b0; have f2 := bne_iff_ne.mpr b0; simp only [zU] at H; obtain ⟨rfl, rfl, rfl, rfl⟩ := H; have n6 := a7.out; have n7 := a8.out; obtain ⟨n8, n9, o0, o1, o2, o3, o4, o5, o6, o7, o8, o9⟩ := ze6 a0.out; obtain ⟨p0, p1, p3, p4, p5, p6, p7, p8⟩ := ze4 a1.out
   go_wp2
   refine bodyPost_ret (results_cell_row rfl _ _ b3 32 #[.int .i64 0, .int .i64 (wrap64 (a3 + 1)), .int .i64 0, .slice none 0 0] (0, 0) _ rfl (zk4 a1.out) Tryz.underlying32 rfl (by kernel_rfl)) rfl ?_
   exact ⟨_, zE, by first | exact Kd.R_nil _ _ _ _ _ | exact Kd.N_nil _ _ _ _ _ | exact Kd.V_nil _ _ _ _ _ | exact Kd.Q_nil _ _ _ _ _ | exact Kd.S_nil _ _ _ _ _, zW HB.out⟩
/-! ### spec_l4Tilde: function 180 -/
def spec_l4Tilde.f (a0 a1 a3 : Int) (a4 : List ByteArray) (a2 : Int) (a5 : Bool) : Option (Int × Int × Int × List ByteArray) := if a2 = 1 then (some (wrap64 (a0 + 1), 0, 0, ([] : List ByteArray))) else (some (a0, wrap64 (a1 + 1), 0, ([] : List ByteArray)))
theorem spec_l4Tilde.calls (a1 a3 a4 : Int) (a5 : Option Addr) (a6 : Nat) (a0 : List ByteArray) (a7 : Int) (a8 : Bool) (r1 r2 r3 : Int) (r4 : List ByteArray) (w : World) (b2 : Kd.C Kd.string w a5 a0.length a0) (b3 : a0.length ≤ a6) (h : spec_l4Tilde.f a1 a3 a4 a0 a7 a8 = some (r1, r2, r3, r4)) :
  Calls Tryz.prog 180 #[.agg #[.int .i64 a1, .int .i64 a3, .int .i64 a4, .slice a5 a0.length a6, .int .i64 a7, .bool a8]] w fun e w' => ∃ b4 : Value, e = .returned (.agg #[.int .i64 r1, .int .i64 r2, .int .i64 r3, b4]) ∧ Kd.R Kd.string 9 w' w.heap.size (fun _ => True) b4 r4 ∧ Below w.heap.size w w' := by
 have b8 := Tryz.underlying169
 have b9 := Tryz.underlying32
 have c0 := zA b2
 have c1 := zA b3
 clear b2 b3
 have HB := zA (Below.refl w.heap.size w)
 unfold spec_l4Tilde.f at h
 have H := h
 clear h
 go_enter Tryz.func180, Tryz.ntmps180
 go_upto_if 5 with (first | ((with_reducible refine zd 1 ?_); refine ze 1 169 #[.int .i64 a1, .int .i64 a3, .int .i64 a4, .slice a5 a0.length a6, .int .i64 a7, .bool a8] ?_; intro c3 hg w3 hbox hb; have a2 := zA (hbox); have c4 := zi HB hg; have c5 := zi HB hg; replace HB := zA (below_step (zB) hb); clear hb hbox hg) | ((with_reducible refine zd 2 ?_); refine ze 2 32 #[.int .i64 0, .int .i64 0, .int .i64 0, .slice none 0 0] ?_; intro b5 hg w4 hbox hb; have a9 := zA (hbox); have c6 := zi HB hg; have c7 := zi HB hg; replace HB := zh HB hb; have b6 := zA (zL hg (zK a2.out)); have b7 := zA (zJ hg (zK a2.out)); replace a2 := zb a2 hb; clear hb hbox hg; have c8 := b6.out; have c9 := b7.out; obtain ⟨d0, d1, d2, d3, d4, d5, d6, d7, d8, d9, e0, e1⟩ := ze6 a2.out; obtain ⟨e2, e3, e4, e5, e6, e7, e8, e9⟩ := ze4 a9.out))
 (try simp only [Act.put, zT])
 replace H := zI1 H
 rcases H with ⟨c2, H⟩ | ⟨c2, H⟩
 ·have b0 := beq_iff_eq.mpr c2; have b1 := bne_eq_false_iff_eq.mpr c2; clear c2; simp only [zU] at H; obtain ⟨rfl, rfl, rfl, rfl⟩ := H
  (try simp only [b0, b1])
  go_wp2
  refine bodyPost_ret (results_cell_row rfl _ _ b5 32 #[.int .i64 (wrap64 (a1 + 1)), .int .i64 0, .int .i64 0, .slice none 0 0] (0, 0) _ rfl (zk4 a9.out) Tryz.underlying32 rfl (by kernel_rfl)) rfl ?_
  exact ⟨_, zE, by first | exact Kd.R_nil _ _ _ _ _ | exact Kd.N_nil _ _ _ _ _ | exact Kd.V_nil _ _ _ _ _ | exact Kd.Q_nil _ _ _ _ _ | exact Kd.S_nil _ _ _ _ _, zW HB.out⟩
 have b0 := beq_eq_false_iff_ne.mpr c2
 have b1 := bne_iff_ne.mpr c2
 simp only [zU] at H
 obtain ⟨rfl, rfl, rfl, rfl⟩ := H
 (try simp only [b0, b1])
 go_wp2
 refine bodyPost_ret (results_cell_row rfl _ _ b5 32 #[.int .i64 a1, .int .i64 (wrap64 (a3 + 1)), .int .i64 0, .slice none 0 0] (0, 0) _ rfl (zk4 a9.out) Tryz.underlying32 rfl (by kernel_rfl)) rfl ?_
 exact ⟨_, zE, by first | exact Kd.R_nil _ _ _ _ _ | exact Kd.N_nil _ _ _ _ _ | exact Kd.V_nil _ _ _ _ _ | exact Kd.Q_nil _ _ _ _ _ | exact Kd.S_nil _ _ _ _ _, zW HB.out⟩
/-! ### spec_l4Next: function 181 -/
def spec_l4Next.f (a0 a1 a3 : Int) (a4 : List ByteArray) (a2 : Int) (a5 : Bool) : Option (Int × Int × Int × List ByteArray) := if a2 = 1 then (some (wrap64 (a0 + 1), 0, 0, ([] : List ByteArray))) else (some (a0, wrap64 (a1 + 1), 0, ([] : List ByteArray)))
theorem spec_l4Next.calls (a1 a3 a4 : Int) (a5 : Option Addr) (a6 : Nat) (a0 : List ByteArray) (a7 : Int) (a8 : Bool) (r1 r2 r3 : Int) (r4 : List ByteArray) (w : World) (b2 : Kd.C Kd.string w a5 a0.length a0) (b3 : a0.length ≤ a6) (h : spec_l4Next.f a1 a3 a4 a0 a7 a8 = some (r1, r2, r3, r4)) :
  Calls Tryz.prog 181 #[.agg #[.int .i64 a1, .int .i64 a3, .int .i64 a4, .slice a5 a0.length a6, .int .i64 a7, .bool a8]] w fun e w' => ∃ b4 : Value, e = .returned (.agg #[.int .i64 r1, .int .i64 r2, .int .i64 r3, b4]) ∧ Kd.R Kd.string 9 w' w.heap.size (fun _ => True) b4 r4 ∧ Below w.heap.size w w' := by
 have b8 := Tryz.underlying169
 have b9 := Tryz.underlying32
 have c0 := zA b2
 have c1 := zA b3
 clear b2 b3
 have HB := zA (Below.refl w.heap.size w)
 unfold spec_l4Next.f at h
 have H := h
 clear h
 go_enter Tryz.func181, Tryz.ntmps181
 go_upto_if 5 with (first | ((with_reducible refine zd 1 ?_); refine ze 1 169 #[.int .i64 a1, .int .i64 a3, .int .i64 a4, .slice a5 a0.length a6, .int .i64 a7, .bool a8] ?_; intro c3 hg w3 hbox hb; have a2 := zA (hbox); have c4 := zi HB hg; have c5 := zi HB hg; replace HB := zA (below_step (zB) hb); clear hb hbox hg) | ((with_reducible refine zd 2 ?_); refine ze 2 32 #[.int .i64 0, .int .i64 0, .int .i64 0, .slice none 0 0] ?_; intro b5 hg w4 hbox hb; have a9 := zA (hbox); have c6 := zi HB hg; have c7 := zi HB hg; replace HB := zh HB hb; have b6 := zA (zL hg (zK a2.out)); have b7 := zA (zJ hg (zK a2.out)); replace a2 := zb a2 hb; clear hb hbox hg; have c8 := b6.out; have c9 := b7.out; obtain ⟨d0, d1, d2, d3, d4, d5, d6, d7, d8, d9, e0, e1⟩ := ze6 a2.out; obtain ⟨e2, e3, e4, e5, e6, e7, e8, e9⟩ := ze4 a9.out))
 (try simp only [Act.put, zT])
 replace H := zI1 H
 rcases H with ⟨c2, H⟩ | ⟨c2, H⟩
 ·have b0 := beq_iff_eq.mpr c2; have b1 := bne_eq_false_iff_eq.mpr c2; clear c2; simp only [zU] at H; obtain ⟨rfl, rfl, rfl, rfl⟩ := H
  (try simp only [b0, b1])
  go_wp2
  refine bodyPost_ret (results_cell_row rfl _ _ b5 32 #[.int .i64 (wrap64 (a1 + 1)), .int .i64 0, .int .i64 0, .slice none 0 0] (0, 0) _ rfl (zk4 a9.out) Tryz.underlying32 rfl (by kernel_rfl)) rfl ?_
  exact ⟨_, zE, by first | exact Kd.R_nil _ _ _ _ _ | exact Kd.N_nil _ _ _ _ _ | exact Kd.V_nil _ _ _ _ _ | exact Kd.Q_nil _ _ _ _ _ | exact Kd.S_nil _ _ _ _ _, zW HB.out⟩
 have b0 := beq_eq_false_iff_ne.mpr c2
 have b1 := bne_iff_ne.mpr c2
 simp only [zU] at H
 obtain ⟨rfl, rfl, rfl, rfl⟩ := H
 (try simp only [b0, b1])
 go_wp2
 refine bodyPost_ret (results_cell_row rfl _ _ b5 32 #[.int .i64 a1, .int .i64 (wrap64 (a3 + 1)), .int .i64 0, .slice none 0 0] (0, 0) _ rfl (zk4 a9.out) Tryz.underlying32 rfl (by kernel_rfl)) rfl ?_
 exact ⟨_, zE, by first | exact Kd.R_nil _ _ _ _ _ | exact Kd.N_nil _ _ _ _ _ | exact Kd.V_nil _ _ _ _ _ | exact Kd.Q_nil _ _ _ _ _ | exact Kd.S_nil _ _ _ _ _, zW HB.out⟩
end Go.Proofs.YtpcdhoeoefoeoaaGreatDoor.PGE
