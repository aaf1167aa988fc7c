/- The walks of the functions that these laws reach, and what each comes to: printed by this session's program. -/
import Derived.Test.YtpcdhoeoefoeoaaGreatDoorZGCPGCx0
import Derived.Test.YtpcdhoeoefoeoaaGreatDoorZGCPGCx1
import Derived.Test.YtpcdhoeoefoeoaaGreatDoorZGCPGCx3
import Derived.Test.YtpcdhoeoefoeoaaGreatDoorZGCPGCx4
import Derived.Test.YtpcdhoeoefoeoaaGreatDoorZGCSays
import Derived.Test.YtpcdhoeoefoeoaaGreatDoorZGCRegs
namespace Go.Proofs.YtpcdhoeoefoeoaaGreatDoor.PGC
open Go.RowKit YtpcdhoeoefoeoaaGreatDoorW.PrintWords YtpcdhoeoefoeoaaGreatDoorW.PrintLast YtpcdhoeoefoeoaaGreatDoorW.PrintMore
attribute [local go_sem high] Mine.str_gtr Mine.str_leq Mine.str_geq
attribute [local go_sem] max2_int min2_int max_two min_two max_three min_three max_four min_four   -- for this text's walks alone
set_option linter.unusedVariables false
set_option maxHeartbeats 8000000
set_option maxRecDepth 100000
set_option linter.unusedSimpArgs false
/-! ### spec_l4Read: function 153 -/
mutual
def spec_l4Read.j0 : Nat → ByteArray → Option (Int × Int × Int × List ByteArray × Int × Bool)
 | 0, _ => none
 | k + 1, x0 => (spec_Split.f k x0 46).bind fun a6 => (if (a6.length : Int) > 3 then (some (0, 0, 0, ([] : List ByteArray), 0, false)) else (spec_l4Read.j1 k a6 (([0, 0, 0] : List Int)) 0 0 0 0 false))
def spec_l4Read.j1 : Nat → List ByteArray → List Int → Int → Int → Int → Int → Bool → Option (Int × Int × Int × List ByteArray × Int × Bool)
 | 0, _, _, _, _, _, _, _ => none
 | k + 1, x5, x7, a1, a2, a3, a0, a4 => spec_l4Read.l0 k x5 x7 a1 a2 a3 a0 a4
def spec_l4Read.l0 : Nat → List ByteArray → List Int → Int → Int → Int → Int → Bool → Option (Int × Int × Int × List ByteArray × Int × Bool)
 | 0, _, _, _, _, _, _, _ => none
 | k + 1, x5, x7, a1, a2, a3, a0, a4 => if a0 < (x5.length : Int) then (if 0 ≤ a0 then (spec_l4Read.j3 k x5 x7 ((rdOf ByteArray.empty x5 a0).toList != ([120] : List UInt8)) a1 a2 a3 a0 a4) else (none)) else (spec_l4Read.j3 k x5 x7 false a1 a2 a3 a0 a4)
def spec_l4Read.j3 : Nat → List ByteArray → List Int → Bool → Int → Int → Int → Int → Bool → Option (Int × Int × Int × List ByteArray × Int × Bool)
 | 0, _, _, _, _, _, _, _, _ => none
 | k + 1, x5, x7, a8, a1, a2, a3, a0, a4 => if a8 = true then (if 0 ≤ a0 then (if a0 < (x5.length : Int) then ((spec_ParseNum.f k (rdOf ByteArray.empty x5 a0) 9999).bind fun a7 => (if a7.2 = true then (if a0 < (x7.length : Int) then (spec_l4Read.l0 k x5 (x7.set (a0 : Int).toNat a7.1) a1 a2 a3 (wrap64 (a0 + 1)) a4) else (none)) else (some (0, 0, 0, ([] : List ByteArray), 0, false)))) else (none)) else (none)) else (spec_l4Read.l1 k x5 x7 a0 a1 a2 a3 a0 a4)
def spec_l4Read.l1 : Nat → List ByteArray → List Int → Int → Int → Int → Int → Int → Bool → Option (Int × Int × Int × List ByteArray × Int × Bool)
 | 0, _, _, _, _, _, _, _, _ => none
 | k + 1, x5, x7, a5, a1, a2, a3, a0, a4 => if a5 < (x5.length : Int) then (if 0 ≤ a5 then (if (rdOf ByteArray.empty x5 a5).toList = ([120] : List UInt8) then (spec_l4Read.l1 k x5 x7 (wrap64 (a5 + 1)) a1 a2 a3 a0 a4) else (some (0, 0, 0, ([] : List ByteArray), 0, false))) else (none)) else (if 0 < (x7.length : Int) then (if 1 < (x7.length : Int) then (if 2 < (x7.length : Int) then ((spec_l1In.f a0 1 2).bind fun a9 => (some (rd x7 0, rd x7 1, rd x7 2, ([] : List ByteArray), a0, a9))) else (none)) else (none)) else (none))
end
def spec_l4Read.f (k : Nat) (a0 : ByteArray) : Option (Int × Int × Int × List ByteArray × Int × Bool) := (spec_ParseVer.f k a0).bind fun a1 => (if a1.2.2.2.2 = true then (some (a1.1, a1.2.1, a1.2.2.1, a1.2.2.2.1, 3, true)) else (spec_l4Read.j0 k a0))
def spec_l4Read.T20 : Bool × List (List Nat × List Nat) := (true, [([], []), ([0], [0]), ([1], [1]), ([], []), ([3], [3]), ([4], [4]), ([], []), ([6], [6]), ([7], [7]), ([2, 5, 8], [2, 5, 8]), ([0, 1, 2, 3, 4, 5, 6, 7, 8, 9], []), ([10, 9, 0, 1, 2, 3, 4, 5, 6, 7, 8, 9], [9, 10])])
def spec_l4Read.B20 : List Nat := [0, 1, 3, 0, 8, 24, 0, 64, 192, 511, 1023, 2047]
theorem spec_l4Read.tab20 : rtab .any (opsOf Tryz.f153 20) = spec_l4Read.T20 := by kernel_rfl
theorem spec_l4Read.bits20 : waitsOk spec_l4Read.T20.2 spec_l4Read.B20 = true := by kernel_rfl
theorem spec_l4Read.calls (k : Nat) (a0 : ByteArray) (r1 r2 r3 : Int) (r4 : List ByteArray) (r5 : Int) (r6 : Bool) (w : World) (h : spec_l4Read.f k a0 = some (r1, r2, r3, r4, r5, r6)) :
  Calls Tryz.prog 153 #[.string a0] w fun e w' => ∃ t7 : Value, e = .returned (.agg #[.int .i64 r1, .int .i64 r2, .int .i64 r3, t7, .int .i64 r5, .bool r6]) ∧ Kd.R Kd.string 9 w' w.heap.size (fun _ => True) t7 r4 ∧ Below w.heap.size w w' := by
 have J6 := Tryz.underlying169
 have J7 := Tryz.underlying32
 have HB := zA (Below.refl w.heap.size w)
 unfold spec_l4Read.f at h
 have H := h
 clear h
 replace H := zj H
 obtain ⟨⟨b7, b8, b9, a7, C2⟩, A2, H⟩ := H
 try dsimp only at H
 have o1 := Aside0.mk H
 clear H
 go_enter Tryz.func153, Tryz.ntmps153
 go_upto_if 16 with (first | ((with_reducible refine zd 2 ?_); refine ze 2 169 #[.int .i64 0, .int .i64 0, .int .i64 0, .slice none 0 0, .int .i64 0, .bool false] ?_; intro b4 hg w4 hbox hb; have a3 := zA (hbox); have J8 := zi HB hg; have J9 := zi HB hg; replace HB := zA (below_step (zB) hb); clear hb hbox hg) | ((with_reducible refine zq 124 ?_); refine zg (some 13) Tryz.func124 #[.string a0] ?_; (with_reducible refine (spec_ParseVer.calls k a0 b7 b8 b9 a7 C2 _ A2.out).mono ?_); rintro e w5 ⟨L0, rfl, e6, hb⟩; refine ⟨_, rfl, ?_⟩; have f5 := zA (Kd.R_lower e6 (below_size (zW HB.out))); replace a3 := zb a3 hb; replace HB := zh HB hb; (try clear hb e6)) | ((with_reducible refine zd 3 ?_); refine ze 3 32 #[.int .i64 0, .int .i64 0, .int .i64 0, .slice none 0 0] ?_; intro c0 hg w6 hbox hb; replace f5 := zr f5 hb; have a6 := zA (hbox); have L1 := zi HB hg; have L2 := zi HB hg; replace HB := zh HB hb; have e7 := zA (zL hg (zK a3.out)); have e8 := zA (zJ hg (zK a3.out)); replace a3 := zb a3 hb; clear hb hbox hg; have L3 := e8.out; have L4 := e7.out; obtain ⟨f6, f7, f8, f9, g0, g1, g2, g3⟩ := ze4 a6.out; obtain ⟨b0, b1, C3⟩ := Kd.R_slice f5.out; subst C3))
 (try simp only [Act.put, zT])
 go_cut [] (fun wc => ∃ (kq : Nat) (o2 : Int) (o3 : Int) (o4 : Int) (o5 : Int) (o6 : Bool), Aside0 (spec_l4Read.j0 kq a0 = some (r1, r2, r3, r4, r5, r6)) ∧ Aside0 (kq ≤ k) ∧ Aside0 (Kd.R Kd.string 9 wc w.heap.size (fun _ => True) (.slice b0 a7.length b1) a7) ∧ Aside0 (wc.heap[b4]? = some (.cells #[.int .i64 o2, .int .i64 o3, .int .i64 o4, (.slice none 0 0), .int .i64 o5, .bool o6] 169 (0, 0))) ∧ Aside0 (wc.heap[c0]? = some (.cells #[.int .i64 b7, .int .i64 b8, .int .i64 b9, (.slice b0 a7.length b1)] 32 (0, 0))) ∧ Aside0 (Below w.heap.size w wc))
 case first =>
  have H := o1.out
  clear o1
  replace H := zB0 H
  rcases H with ⟨rfl, H⟩ | ⟨rfl, H⟩
  ·simp only [Option.some.injEq, Prod.mk.injEq] at H
   obtain ⟨rfl, rfl, rfl, rfl, rfl, rfl⟩ := H
   have L5 := e8.out
   have L6 := e7.out
   obtain ⟨g4, g5, g6, g7, g8, g9, h0, h1⟩ := ze4 a6.out
   obtain ⟨h2, h3, h4, h5, h6, h7, h8, h9, i0, i1, i2, i3⟩ := ze6 a3.out
   go_wp2
   refine bodyPost_ret (results_cell_row rfl _ _ b4 169 #[.int .i64 b7, .int .i64 b8, .int .i64 b9, .slice b0 a7.length b1, .int .i64 3, .bool true] (0, 0) _ rfl (zk6 a3.out) Tryz.underlying169 rfl (by kernel_rfl)) rfl ?_
   exact ⟨_, zE, zR (Kd.R_mono (Kd.R_far (p := ⟨b4, 5, none⟩) (Kd.R_far (p := ⟨b4, 4, none⟩) (Kd.R_far (p := ⟨b4, 3, none⟩) (Kd.R_far (p := ⟨b4, 2, none⟩) (Kd.R_far (p := ⟨b4, 1, none⟩) (Kd.R_far (p := ⟨b4, 0, none⟩) (Kd.R_far (p := ⟨c0, 3, none⟩) (Kd.R_far (p := ⟨c0, 2, none⟩) (Kd.R_far (p := ⟨c0, 1, none⟩) (Kd.R_far (p := ⟨c0, 0, none⟩) (Kd.R_types (Kd.R_types f5.out a6.out (by decide)) a3.out (by decide)) (fun _ hk => hk.1.2) (.int .i64 b7)) (fun _ hk => hk.1.2) (.int .i64 b8)) (fun _ hk => hk.1.2) (.int .i64 b9)) (fun _ hk => hk.1.2) (.slice b0 a7.length b1)) (fun _ hk => hk.2) (.int .i64 b7)) (fun _ hk => hk.2) (.int .i64 b8)) (fun _ hk => hk.2) (.int .i64 b9)) (fun _ hk => hk.2) (.slice b0 a7.length b1)) (fun _ hk => hk.2) (.int .i64 3)) (fun _ hk => hk.2) (.bool true)) (fun _ hk => trivial)), zW HB.out⟩
  ·have H' := Aside0.mk H
   clear H
   go_wp2
   go_meet
   case rel => exact ⟨_, (0), (0), (0), (0), (false), (by first | exact H' | (subst_vars; exact H')), ⟨by first | omega | exact Nat.le_refl _⟩, ⟨zR (Kd.R_mono (zr4 f5.out a6.out) (fun _ hk => trivial))⟩, ⟨zK a3.out⟩, ⟨zk4 a6.out⟩, ⟨zW HB.out⟩⟩
 case rest =>
  clear o1
  try clear c1
  try clear p2
  try clear c7
  try clear c10
  try clear c11
  try clear c12
  try clear g4 g5 g6 g7 g8 g9 h0 h1
  try clear h2 h3 h4 h5 h6 h7 h8 h9 i0 i1 i2 i3
  try clear f6 f7 f8 f9 g0 g1 g2 g3
  obtain ⟨kq, o2, o3, o4, o5, o6, HA, e1, a9, a3, a6, HB⟩ := hcut
  cases kq with
  | zero => exact absurd HA.out (by simp [spec_l4Read.j0])
  | succ o7 =>
   have H := HA.out
   clear HA
   simp only [spec_l4Read.j0] at H
   replace H := zj H
   obtain ⟨a5, C4, H⟩ := H
   try dsimp only at H
   obtain ⟨j6, o8⟩ : ∃ y_ : List Int, y_ = (([0, 0, 0] : List Int)) := ⟨_, rfl⟩
   replace H : (if (a5.length : Int) > 3 then (some (0, 0, 0, ([] : List ByteArray), 0, false)) else (spec_l4Read.j1 o7 a5 j6 0 0 0 0 false)) = some (r1, r2, r3, r4, r5, r6) := zY o8 H
   have t8 := Aside0.mk o8
   clear o8
   have o9 := Aside0.mk H
   clear H
   go_upto_if 25 with (first | ((with_reducible refine zq 78 ?_); refine zg (some 20) Tryz.func78 #[.string a0, .int .u8 46] ?_; (with_reducible refine (spec_Split.calls o7 a0 46 a5 _ C4.out).mono ?_); rintro e L7 ⟨L8, rfl, e6, hb⟩; refine ⟨_, rfl, ?_⟩; have e9 := zA (Kd.R_lower (Kd.R_new' e6 (Kd.R_lt (zR a9.out))) (below_size (zW HB.out))); replace a9 := zA (Kd.R_elder' (zR a9.out) (Kd.R_base e6) hb); replace a3 := zb a3 hb; replace a6 := zb a6 hb; replace HB := zh HB hb; (try clear hb e6)) | ((with_reducible refine zd 6 ?_); refine ze 6 169 #[.int .i64 0, .int .i64 0, .int .i64 0, .slice none 0 0, .int .i64 0, .bool false] ?_; intro b3 hg L9 hbox hb; replace a9 := zr a9 hb; replace e9 := zr e9 hb; have a1 := zA (hbox); have M0 := zi HB hg; have M1 := zi HB hg; replace HB := zh HB hb; have b5 := zA (zL hg (zK a3.out)); have b6 := zA (zJ hg (zK a3.out)); replace a3 := zb a3 hb; have c6 := zA (zL hg (zK a6.out)); have c8 := zA (zJ hg (zK a6.out)); replace a6 := zb a6 hb; clear hb hbox hg; have M2 := b6.out; have M3 := b5.out; have M4 := c8.out; have M5 := c6.out; obtain ⟨j7, j8, j9, k0, k1, k2, k4, k6, k7, k8, k9, l2⟩ := ze6 a1.out) | ((with_reducible refine gate_dst (N := 22) rfl ?_); refine Kd.R_lit (Kd.int .i64) _ 3 ?hg (N := 22) ?hd (xs := ([0, 0, 0] : List Int)) (inner := [.int .i64 0, .int .i64 0, .int .i64 0]) (ok := fun _ => True) ?hr ?hp (fun _ hk => hk) trivial (Below.refl _ _) (Nat.le_refl _) (by simp) ?_; (case hd => rfl); (case hg => rfl); (case hr => first | (go_simp; done) | (go_simp; rfl)); (case hp => exact (Reps.one (show Kd.M (Kd.int .i64) _ _ _ 0 [.int .i64 0] from rfl) (Reps.one (show Kd.M (Kd.int .i64) _ _ _ 0 [.int .i64 0] from rfl) (Reps.one (show Kd.M (Kd.int .i64) _ _ _ 0 [.int .i64 0] from rfl) (Reps.none _ _))))); intro f0 M6 i4 hb hg_ hnew_; clear hg_ hnew_; (first | rw [← t8.out] at i4 | (simp only [Int.reduceToNat] at i4; rw [← t8.out] at i4)); replace a9 := zA (Kd.R_below (zR (zr6 a9.out a1.out)) hb); replace e9 := zA (Kd.R_below (zR (zr6 e9.out a1.out)) hb); have C5 := zA (Kd.R_lower i4 (below_size (zW HB.out))); replace a3 := zb a3 hb; replace a6 := zb a6 hb; replace a1 := zA (blk_below (zk6 a1.out) hb); replace HB := zh HB hb; clear hb i4; obtain ⟨d3, c9, C6⟩ := Kd.R_slice e9.out; subst C6))
   (try simp only [Act.put, zT])
   go_cut [] (fun wc => ∃ (kq : Nat) (p0 : Int) (p3 : Int) (p5 : Int) (p7 : Int) (p8 : Bool), Aside0 (spec_l4Read.j1 kq a5 j6 0 0 0 0 false = some (r1, r2, r3, r4, r5, r6)) ∧ Aside0 (kq ≤ o7) ∧ Aside0 (Kd.R Kd.string 9 wc w.heap.size (fun k_ => some k_ ≠ ((.slice b0 a7.length b1) : Value).ownBlock) (.slice d3 a5.length c9) a5) ∧ Aside0 (Kd.R (Kd.int .i64) 3 wc w.heap.size (fun _ => True) f0 j6) ∧ Aside0 (Kd.R Kd.string 9 wc w.heap.size (fun k_ => some k_ ≠ ((.slice d3 a5.length c9) : Value).ownBlock) (.slice b0 a7.length b1) a7) ∧ Aside0 (wc.heap[b4]? = some (.cells #[.int .i64 p0, .int .i64 p3, .int .i64 p5, (.slice none 0 0), .int .i64 p7, .bool p8] 169 (0, 0))) ∧ Aside0 (wc.heap[c0]? = some (.cells #[.int .i64 b7, .int .i64 b8, .int .i64 b9, (.slice b0 a7.length b1)] 32 (0, 0))) ∧ Aside0 (wc.heap[b3]? = some (.cells #[.int .i64 0, .int .i64 0, .int .i64 0, (.slice none 0 0), .int .i64 0, .bool false] 169 (0, 0))) ∧ Aside0 (Below w.heap.size w wc))
   case first =>
    have H := o9.out
    clear o9
    replace H := zI1 H
    rcases H with ⟨d1, H⟩ | ⟨d1, H⟩
    ·have d2 : decide (3 < (a5.length : Int)) = true := decide_eq_true d1
     have i5 : decide (3 < a5.length) = true := decide_eq_true (by omega)
     clear d1
     (first | rw [d2] | (simp only [i64_w, i32_w]; rw [d2]) | skip)
     simp only [Option.some.injEq, Prod.mk.injEq] at H
     obtain ⟨rfl, rfl, rfl, rfl, rfl, rfl⟩ := H
     have M7 := b6.out
     have M8 := b5.out
     have M9 := c8.out
     have N0 := c6.out
     obtain ⟨l3, l4, l5, l6, l7, l8, l9, m0, m1, m2, m3, m4⟩ := ze6 a1.out
     have N1 := e7.out
     have N2 := e8.out
     obtain ⟨m5, m6, m7, m8, m9, n0, n1, n2, n3, n4, n5, n6⟩ := ze6 a3.out
     go_wp2
     refine bodyPost_ret (results_cell_row rfl _ _ b4 169 #[.int .i64 0, .int .i64 0, .int .i64 0, .slice none 0 0, .int .i64 0, .bool false] (0, 0) _ rfl (zk6 a3.out) Tryz.underlying169 rfl (by kernel_rfl)) rfl ?_
     exact ⟨_, zE, by first | exact Kd.R_nil _ _ _ _ _ | exact Kd.N_nil _ _ _ _ _ | exact Kd.V_nil _ _ _ _ _ | exact Kd.Q_nil _ _ _ _ _ | exact Kd.S_nil _ _ _ _ _, zW HB.out⟩
    ·have d2 : decide (3 < (a5.length : Int)) = false := decide_eq_false d1
     have i5 : decide (3 < a5.length) = false := decide_eq_false (by omega)
     clear d1
     (first | rw [d2] | (simp only [i64_w, i32_w]; rw [d2]) | skip)
     have H' := Aside0.mk H
     clear H
     go_wp2
     go_meet
     case rel => exact ⟨_, (o2), (o3), (o4), (o5), (o6), (by first | exact H' | (subst_vars; exact H')), ⟨by have := e1.out; first | omega | exact Nat.le_refl _⟩, ⟨zR (Kd.R_mono e9.out (fun _ hk => hk.2))⟩, ⟨zR C5.out⟩, ⟨zR (Kd.R_mono a9.out (fun _ hk => hk.2))⟩, ⟨zK a3.out⟩, ⟨zK a6.out⟩, ⟨zK a1.out⟩, ⟨zW HB.out⟩⟩
   case rest =>
    clear o9
    try clear c1
    try clear c2
    try clear p2
    try clear c7
    try clear c10
    try clear c11
    try clear c12
    try clear c15
    try clear c18
    try clear c19
    try clear d1
    try clear d2
    try clear i5
    try clear c25
    try clear c26
    try clear c28
    try clear g4 g5 g6 g7 g8 g9 h0 h1
    try clear h2 h3 h4 h5 h6 h7 h8 h9 i0 i1 i2 i3
    try clear j7 j8 j9 k0 k1 k2 k4 k6 k7 k8 k9 l2
    try clear l3 l4 l5 l6 l7 l8 l9 m0 m1 m2 m3 m4
    try clear m5 m6 m7 m8 m9 n0 n1 n2 n3 n4 n5 n6
    try clear f6 f7 f8 f9 g0 g1 g2 g3
    try clear p2
    obtain ⟨kq, p0, p3, p5, p7, p8, HA, f1, b2, a2, a9, a3, a6, a1, HB⟩ := hcut
    cases kq with
    | zero => exact absurd HA.out (by simp [spec_l4Read.j1])
    | succ t9 =>
     have H := HA.out
     clear HA
     simp only [spec_l4Read.j1] at H
     have H' := Aside0.mk H
     clear H
     go_wp2
     go_loopg [] t9 (fun kq w' => ∃ (a8 : List Int) (d4 : Int) (d5 : Int) (d6 : Int) (d7 : Int) (d8 : Bool) (a4 : Int), Aside0 (spec_l4Read.l0 kq a5 a8 0 0 0 a4 false = some (r1, r2, r3, r4, r5, r6)) ∧ Aside0 (kq ≤ t9) ∧ Aside0 (Kd.R Kd.string 9 w' w.heap.size (fun k_ => some k_ ≠ ((.slice b0 a7.length b1) : Value).ownBlock) (.slice d3 a5.length c9) a5) ∧ Aside0 (Kd.R (Kd.int .i64) 3 w' w.heap.size (fun _ => True) f0 a8) ∧ Aside0 (Kd.R Kd.string 9 w' w.heap.size (fun k_ => some k_ ≠ ((.slice d3 a5.length c9) : Value).ownBlock) (.slice b0 a7.length b1) a7) ∧ Aside0 (w'.heap[b4]? = some (.cells #[.int .i64 d4, .int .i64 d5, .int .i64 d6, (.slice none 0 0), .int .i64 d7, .bool d8] 169 (0, 0))) ∧ Aside0 (w'.heap[c0]? = some (.cells #[.int .i64 b7, .int .i64 b8, .int .i64 b9, (.slice b0 a7.length b1)] 32 (0, 0))) ∧ Aside0 (w'.heap[b3]? = some (.cells #[.int .i64 0, .int .i64 0, .int .i64 0, (.slice none 0 0), .int .i64 a4, .bool false] 169 (0, 0))) ∧ Aside0 (Below w.heap.size w w'))
     case atStart => exact ⟨(j6), (p0), (p3), (p5), (p7), (p8), (0), H', ⟨Nat.le_refl _⟩, ⟨zR b2.out⟩, ⟨zR a2.out⟩, ⟨zR a9.out⟩, ⟨zK a3.out⟩, ⟨zK a6.out⟩, ⟨zK a1.out⟩, ⟨zW HB.out⟩⟩
     case round =>
      clear H'
      try clear c1
      try clear c2
      try clear p2
      try clear c7
      try clear c10
      try clear c11
      try clear c12
      try clear c15
      try clear c18
      try clear c19
      try clear d1
      try clear d2
      try clear i5
      try clear c25
      try clear c26
      try clear c28
      try clear g4 g5 g6 g7 g8 g9 h0 h1
      try clear h2 h3 h4 h5 h6 h7 h8 h9 i0 i1 i2 i3
      try clear j7 j8 j9 k0 k1 k2 k4 k6 k7 k8 k9 l2
      try clear l3 l4 l5 l6 l7 l8 l9 m0 m1 m2 m3 m4
      try clear m5 m6 m7 m8 m9 n0 n1 n2 n3 n4 n5 n6
      try clear f6 f7 f8 f9 g0 g1 g2 g3
      try clear p2
      obtain ⟨a8, d4, d5, d6, d7, d8, a4, HA, f2, b2, a2, a9, a3, a6, a1, HB⟩ := hrel
      cases gk with
      | zero => exact absurd HA.out (by simp [spec_l4Read.l0])
      | succ k3 =>
       have H := HA.out
       clear HA
       simp only [spec_l4Read.l0] at H
       have p9 := Aside0.mk H
       clear H
       go_upto_region 9 with (fail)
       go_cut [39] (fun C7 wc => ∃ (kq : Nat) (q0 : Bool), C7 = .bool q0 ∧ Aside0 (spec_l4Read.j3 kq a5 a8 q0 0 0 0 a4 false = some (r1, r2, r3, r4, r5, r6)) ∧ Aside0 (kq ≤ k3) ∧ Aside0 (Kd.R Kd.string 9 wc w.heap.size (fun k_ => some k_ ≠ ((.slice b0 a7.length b1) : Value).ownBlock) (.slice d3 a5.length c9) a5) ∧ Aside0 (Kd.R (Kd.int .i64) 3 wc w.heap.size (fun _ => True) f0 a8) ∧ Aside0 (Kd.R Kd.string 9 wc w.heap.size (fun k_ => some k_ ≠ ((.slice d3 a5.length c9) : Value).ownBlock) (.slice b0 a7.length b1) a7) ∧ Aside0 (wc.heap[b4]? = some (.cells #[.int .i64 d4, .int .i64 d5, .int .i64 d6, (.slice none 0 0), .int .i64 d7, .bool d8] 169 (0, 0))) ∧ Aside0 (wc.heap[c0]? = some (.cells #[.int .i64 b7, .int .i64 b8, .int .i64 b9, (.slice b0 a7.length b1)] 32 (0, 0))) ∧ Aside0 (wc.heap[b3]? = some (.cells #[.int .i64 0, .int .i64 0, .int .i64 0, (.slice none 0 0), .int .i64 a4, .bool false] 169 (0, 0))) ∧ Aside0 (Below w.heap.size w wc))
       case first =>
        have H := p9.out
        clear p9
        replace H := zI0 H
        rcases H with ⟨e2, H⟩ | ⟨e2, H⟩
        ·(first | rw [e2] | (simp only [i64_w, i32_w]; rw [e2]) | skip)
         replace H := zD0 H
         obtain ⟨v0, H⟩ := H
         have H' := Aside0.mk H
         clear H
         have N3 := b6.out
         have N4 := b5.out
         have N5 := c8.out
         have N6 := c6.out
         obtain ⟨v1, v2, v3, v4, v5, v6, v7, v8, v9, x0, x1, x2⟩ := ze6 a1.out
         have i6 : 0 ≤ (a4 : Int) := zD
         have i7 : a4 < (a5.length : Int) := zD
         obtain ⟨N7, C8, x3⟩ := Kd.at_string (Kd.R_reads' b2.out).2.2 a4 i6 i7
         cases C8
         replace i6 := eq_true i6
         replace i7 := eq_true i7
         go_wp2
         go_meet
         case rel => exact ⟨_, (((rdOf ByteArray.empty a5 a4).toList != ([120] : List UInt8))), zS, (by first | exact H' | (subst_vars; exact H')), ⟨by have := e1.out; have := f1.out; have := f2.out; first | omega | exact Nat.le_refl _⟩, ⟨zR b2.out⟩, ⟨zR a2.out⟩, ⟨zR a9.out⟩, ⟨zK a3.out⟩, ⟨zK a6.out⟩, ⟨zK a1.out⟩, ⟨zW HB.out⟩⟩
        ·(first | rw [e2] | (simp only [i64_w, i32_w]; rw [e2]) | skip)
         have H' := Aside0.mk H
         clear H
         have N8 := b6.out
         have N9 := b5.out
         have O0 := c8.out
         have O1 := c6.out
         obtain ⟨x4, x5, x6, x7, x8, x9, y0, y1, y2, y3, y4, y5⟩ := ze6 a1.out
         go_wp2
         go_meet
         case rel => exact ⟨_, (false), zS, (by first | exact H' | (subst_vars; exact H')), ⟨by have := e1.out; have := f1.out; have := f2.out; first | omega | exact Nat.le_refl _⟩, ⟨zR b2.out⟩, ⟨zR a2.out⟩, ⟨zR a9.out⟩, ⟨zK a3.out⟩, ⟨zK a6.out⟩, ⟨zK a1.out⟩, ⟨zW HB.out⟩⟩
       case rest =>
        clear p9
        try clear c1
        try clear p1
        try clear q1
        try clear hx1
        try clear c2
        try clear p2
        try clear c3
        try clear c7
        try clear c10
        try clear c11
        try clear c12
        try clear c15
        try clear c18
        try clear p18
        try clear q18
        try clear hx18
        try clear c19
        try clear d1
        try clear d2
        try clear i5
        try clear c25
        try clear c26
        try clear c28
        try clear c31
        try clear e2
        try clear c32
        try clear v0
        try clear c33
        try clear c34
        try clear c36
        try clear c37
        try clear g4 g5 g6 g7 g8 g9 h0 h1
        try clear h2 h3 h4 h5 h6 h7 h8 h9 i0 i1 i2 i3
        try clear j7 j8 j9 k0 k1 k2 k4 k6 k7 k8 k9 l2
        try clear l3 l4 l5 l6 l7 l8 l9 m0 m1 m2 m3 m4
        try clear m5 m6 m7 m8 m9 n0 n1 n2 n3 n4 n5 n6
        try clear v1 v2 v3 v4 v5 v6 v7 v8 v9 x0 x1 x2
        try clear x4 x5 x6 x7 x8 x9 y0 y1 y2 y3 y4 y5
        try clear f6 f7 f8 f9 g0 g1 g2 g3
        try clear x3
        try clear i6
        try clear p2
        try clear i7
        obtain ⟨kq, q0, rfl, HA, n7, b2, a2, a9, a3, a6, a1, HB⟩ := hcut
        cases kq with
        | zero => exact absurd HA.out (by simp [spec_l4Read.j3])
        | succ f3 =>
         have H := HA.out
         clear HA
         simp only [spec_l4Read.j3] at H
         replace H := zB0 H
         rcases H with ⟨rfl, H⟩ | ⟨rfl, H⟩
         ·replace H := zD0 H
          obtain ⟨C9, H⟩ := H
          replace H := zD0 H
          obtain ⟨D0, H⟩ := H
          replace H := zj H
          obtain ⟨⟨i8, O2⟩, y6, H⟩ := H
          try dsimp only at H
          replace H := zB0 H
          rcases H with ⟨rfl, H⟩ | ⟨rfl, H⟩
          ·replace H := zD0 H
           obtain ⟨D1, H⟩ := H
           obtain ⟨q2, q3⟩ : ∃ y_ : List Int, y_ = (a8.set (a4 : Int).toNat i8) := ⟨_, rfl⟩
           replace H : (spec_l4Read.l0 f3 a5 q2 0 0 0 (wrap64 (a4 + 1)) false) = some (r1, r2, r3, r4, r5, r6) := zY q3 H
           have D2 := Aside0.mk q3
           clear q3
           have H' := Aside0.mk H
           clear H
           have O3 := b6.out
           have O4 := b5.out
           have O5 := c8.out
           have O6 := c6.out
           obtain ⟨y7, y8, y9, z0, z1, z2, z3, z4, z5, z6, z7, z8⟩ := ze6 a1.out
           have d9 : 0 ≤ (a4 : Int) := zD
           have e0 : a4 < (a5.length : Int) := zD
           obtain ⟨i9, q5, z9⟩ := Kd.at_string (Kd.R_reads' b2.out).2.2 a4 d9 e0
           cases q5
           replace d9 := eq_true d9
           replace e0 := eq_true e0
           go_wp2_with (first | ((with_reducible refine zq 152 ?_); refine zg (some 46) Tryz.func152 #[.string (rdOf ByteArray.empty a5 a4), .int .i64 9999] ?_; (with_reducible refine (spec_ParseNum.calls f3 (rdOf ByteArray.empty a5 a4) 9999 i8 true _ y6.out).mono ?_); rintro e w' ⟨rfl, ⟨nd, rfl⟩⟩; refine ⟨_, rfl, ?_⟩; (try (rw [drewN_self wc]; generalize hq_ : World.drewN wc _ = wc; replace a9 : Aside0 (Kd.R Kd.string 9 wc w.heap.size (fun k_ => some k_ ≠ (.slice (some i9) a5.length c9 : Value).ownBlock) (.slice b0 a7.length b1) a7) := ⟨by rw [← hq_]; exact (zR a9.out)⟩; replace b2 : Aside0 (Kd.R Kd.string 9 wc w.heap.size (fun k_ => some k_ ≠ (.slice b0 a7.length b1 : Value).ownBlock) (.slice (some i9) a5.length c9) a5) := ⟨by rw [← hq_]; exact (zR b2.out)⟩; replace a2 : Aside0 (Kd.R (Kd.int .i64) 3 wc w.heap.size (fun _ => True) f0 a8) := ⟨by rw [← hq_]; exact (zR a2.out)⟩; replace a3 : Aside0 (wc.heap[b4]? = some (.cells #[.int .i64 d4, .int .i64 d5, .int .i64 d6, .slice none 0 0, .int .i64 d7, .bool d8] 169 (0, 0))) := ⟨by rw [← hq_]; exact (zK a3.out)⟩; replace a6 : Aside0 (wc.heap[c0]? = some (.cells #[.int .i64 b7, .int .i64 b8, .int .i64 b9, .slice b0 a7.length b1] 32 (0, 0))) := ⟨by rw [← hq_]; exact (zK a6.out)⟩; replace a1 : Aside0 (wc.heap[b3]? = some (.cells #[.int .i64 0, .int .i64 0, .int .i64 0, .slice none 0 0, .int .i64 a4, .bool false] 169 (0, 0))) := ⟨by rw [← hq_]; exact (zK a1.out)⟩; replace HB : Aside0 (Below w.heap.size w wc) := ⟨by rw [← hq_]; exact (zW HB.out)⟩; clear hq_)); (try (obtain ⟨y7, y8, y9, z0, z1, z2, z3, z4, z5, z6, z7, z8⟩ := ze6 a1.out)); have j2 : 0 ≤ (a4 : Int) := zD; have j4 : (a4 : Int) < ((a8.length : Int) : Int) := zD; obtain ⟨j5, q6, A0, A1, D3, O7, A3⟩ := Kd.R_form a2.out (by omega); (first | cases A0 | (injection A0 with ea_ en_ ec_; (first | subst ea_ | (injection ea_ with ea_; subst ea_)); subst ec_; clear en_)); have D4 := Aside0.mk A1; have O8 := Aside0.mk A3; clear A1 D3 A3; obtain ⟨D5, O9⟩ := Kd.R_celln 0 a2.out (a4 : Int) j2 j4; replace j2 := eq_true j2; replace j4 := eq_true j4; obtain ⟨P0, P1⟩ := Kd.R_celln 0 a2.out (a4 : Int) (zD) (zD); have q7 := Kd.R_putg a2.out (a4 : Int) i8) | ((with_reducible refine gate_store (t := 3) (p := 56) rfl ?_); refine store_event (t := 3) (p := 56) (v := ?vo_w50) (w1 := (wc.setCell ⟨j5, (a4 : Int).toNat, none⟩ (.int .i64 i8))) ?hg ?ho ?hn ?hr ?_; (case ho => rfl); (case hg => rfl); (case hn => rfl); (case hr => first | (go_simp; done) | (go_simp; rfl)); intro q8 hw; have hg : wc.grownBy q8 (some j5) := (by rw [hw]; exact q7.2); have hp_ : Kd.R (Kd.int .i64) 3 q8 w.heap.size (fun _ => True) (.slice (some ⟨j5, 0, none⟩) a8.length q6) q2 := (by rw [hw, D2.out]; exact q7.1); clear q7; replace b2 := zA (Kd.R_over' (v := (.slice (some ⟨j5, 0, none⟩) a8.length q6)) (zR b2.out) (Kd.R_typed a2.out) (by decide) hg); replace a9 := zA (Kd.R_over' (v := (.slice (some ⟨j5, 0, none⟩) a8.length q6)) (zR a9.out) (Kd.R_typed a2.out) (by decide) hg); replace a3 := zA (blk_grown (g := b4) (o := .cells #[.int .i64 d4, .int .i64 d5, .int .i64 d6, .slice none 0 0, .int .i64 d7, .bool d8] 169 (0, 0)) (zK a3.out) hg (Kd.R_ne a2.out a3.out (by decide))); replace a6 := zA (blk_grown (g := c0) (o := .cells #[.int .i64 b7, .int .i64 b8, .int .i64 b9, .slice b0 a7.length b1] 32 (0, 0)) (zK a6.out) hg (Kd.R_ne a2.out a6.out (by decide))); replace a1 := zA (blk_grown (g := b3) (o := .cells #[.int .i64 0, .int .i64 0, .int .i64 0, .slice none 0 0, .int .i64 a4, .bool false] 169 (0, 0)) (zK a1.out) hg (Kd.R_ne a2.out a1.out (by decide))); replace a2 := zA (hp_); replace HB := zA ((by rw [hw]; exact below_set (HB.out) D4.out : Below w.heap.size w q8)); clear hg hw hp_; obtain ⟨D6, D7, D8, D9, E0, E1, E2, E3, E4, E5, E6, E7⟩ := ze6 a1.out))
           go_roundg f3
           case measure => have := e1.out; have := f1.out; have := f2.out; have := n7.out; omega
           case rel => exact ⟨(q2), (d4), (d5), (d6), (d7), (d8), (wrap64 (a4 + 1)), H', ⟨by have := e1.out; have := f1.out; have := f2.out; have := n7.out; omega⟩, ⟨zR (Kd.R_mono (Kd.R_far (p := ⟨b3, 4, none⟩) (Kd.R_types b2.out a1.out (by decide)) (fun _ hk => hk.2) (.int .i64 (wrap64 (a4 + 1)))) (fun _ hk => hk.1))⟩, ⟨zR (Kd.R_mono (Kd.R_far (p := ⟨b3, 4, none⟩) (Kd.R_types a2.out a1.out (by decide)) (fun _ hk => hk.2) (.int .i64 (wrap64 (a4 + 1)))) (fun _ hk => trivial))⟩, ⟨zR (Kd.R_mono (Kd.R_far (p := ⟨b3, 4, none⟩) (Kd.R_types a9.out a1.out (by decide)) (fun _ hk => hk.2) (.int .i64 (wrap64 (a4 + 1)))) (fun _ hk => hk.1))⟩, ⟨zK a3.out⟩, ⟨zK a6.out⟩, ⟨by (with_reducible repeat (first | refine blk_drewN ?_ _ | refine blk_drew ?_ | refine blk_alloc ?_ _)); refine blk_put (cs := #[.int .i64 0, .int .i64 0, .int .i64 0, .slice none 0 0, .int .i64 a4, .bool false]) ?_ 4 _ rfl; (with_reducible repeat (first | refine blk_drewN ?_ _ | refine blk_drew ?_ | refine blk_alloc ?_ _)); exact a1.out⟩, ⟨zW HB.out⟩⟩
          ·simp only [Option.some.injEq, Prod.mk.injEq] at H
           obtain ⟨rfl, rfl, rfl, rfl, rfl, rfl⟩ := H
           have P2 := b6.out
           have P3 := b5.out
           have P4 := c8.out
           have P5 := c6.out
           obtain ⟨A4, A5, A6, A7, A8, A9, B0, B1, B2, B3, B4, B5⟩ := ze6 a1.out
           have d9 : 0 ≤ (a4 : Int) := zD
           have e0 : a4 < (a5.length : Int) := zD
           obtain ⟨i9, q5, z9⟩ := Kd.at_string (Kd.R_reads' b2.out).2.2 a4 d9 e0
           cases q5
           replace d9 := eq_true d9
           replace e0 := eq_true e0
           go_wp2_with (first | ((with_reducible refine zq 152 ?_); refine zg (some 46) Tryz.func152 #[.string (rdOf ByteArray.empty a5 a4), .int .i64 9999] ?_; (with_reducible refine (spec_ParseNum.calls f3 (rdOf ByteArray.empty a5 a4) 9999 i8 false _ y6.out).mono ?_); rintro e w' ⟨rfl, ⟨nd, rfl⟩⟩; refine ⟨_, rfl, ?_⟩; (try (rw [drewN_self wc]; generalize hq_ : World.drewN wc _ = wc; replace a9 : Aside0 (Kd.R Kd.string 9 wc w.heap.size (fun k_ => some k_ ≠ (.slice (some i9) a5.length c9 : Value).ownBlock) (.slice b0 a7.length b1) a7) := ⟨by rw [← hq_]; exact (zR a9.out)⟩; replace b2 : Aside0 (Kd.R Kd.string 9 wc w.heap.size (fun k_ => some k_ ≠ (.slice b0 a7.length b1 : Value).ownBlock) (.slice (some i9) a5.length c9) a5) := ⟨by rw [← hq_]; exact (zR b2.out)⟩; replace a2 : Aside0 (Kd.R (Kd.int .i64) 3 wc w.heap.size (fun _ => True) f0 a8) := ⟨by rw [← hq_]; exact (zR a2.out)⟩; replace a3 : Aside0 (wc.heap[b4]? = some (.cells #[.int .i64 d4, .int .i64 d5, .int .i64 d6, .slice none 0 0, .int .i64 d7, .bool d8] 169 (0, 0))) := ⟨by rw [← hq_]; exact (zK a3.out)⟩; replace a6 : Aside0 (wc.heap[c0]? = some (.cells #[.int .i64 b7, .int .i64 b8, .int .i64 b9, .slice b0 a7.length b1] 32 (0, 0))) := ⟨by rw [← hq_]; exact (zK a6.out)⟩; replace a1 : Aside0 (wc.heap[b3]? = some (.cells #[.int .i64 0, .int .i64 0, .int .i64 0, .slice none 0 0, .int .i64 a4, .bool false] 169 (0, 0))) := ⟨by rw [← hq_]; exact (zK a1.out)⟩; replace HB : Aside0 (Below w.heap.size w wc) := ⟨by rw [← hq_]; exact (zW HB.out)⟩; clear hq_)); (try (obtain ⟨A4, A5, A6, A7, A8, A9, B0, B1, B2, B3, B4, B5⟩ := ze6 a1.out)); have P6 := e7.out; have P7 := e8.out; obtain ⟨E8, E9, F0, F1, F2, F3, F4, F5, F6, F7, F8, F9⟩ := ze6 a3.out))
           refine bodyPost_ret (results_cell_row rfl _ _ b4 169 #[.int .i64 0, .int .i64 0, .int .i64 0, .slice none 0 0, .int .i64 0, .bool false] (0, 0) _ rfl (zk6 a3.out) Tryz.underlying169 rfl (by kernel_rfl)) rfl ?_
           exact ⟨_, zE, by first | exact Kd.R_nil _ _ _ _ _ | exact Kd.N_nil _ _ _ _ _ | exact Kd.V_nil _ _ _ _ _ | exact Kd.Q_nil _ _ _ _ _ | exact Kd.S_nil _ _ _ _ _, zW HB.out⟩
         ·have H' := Aside0.mk H
          clear H
          have P8 := b6.out
          have P9 := b5.out
          have Q0 := c8.out
          have Q1 := c6.out
          obtain ⟨G0, G1, G2, G3, G4, G5, G6, G7, G8, G9, I0, I1⟩ := ze6 a1.out
          go_wp2
          go_loopg [10] f3 (fun kq I2 w' => ∃ (d0 : Int) (q9 : Int) (r0 : Int) (r7 : Int) (r8 : Int) (r9 : Bool), I2 = .int .i64 d0 ∧ Aside0 (spec_l4Read.l1 kq a5 a8 d0 0 0 0 a4 false = some (r1, r2, r3, r4, r5, r6)) ∧ Aside0 (kq ≤ f3) ∧ Aside0 (Kd.R Kd.string 9 w' w.heap.size (fun k_ => some k_ ≠ ((.slice b0 a7.length b1) : Value).ownBlock) (.slice d3 a5.length c9) a5) ∧ Aside0 (Kd.R (Kd.int .i64) 3 w' w.heap.size (fun _ => True) f0 a8) ∧ Aside0 (Kd.R Kd.string 9 w' w.heap.size (fun k_ => some k_ ≠ ((.slice d3 a5.length c9) : Value).ownBlock) (.slice b0 a7.length b1) a7) ∧ Aside0 (w'.heap[b4]? = some (.cells #[.int .i64 q9, .int .i64 r0, .int .i64 r7, (.slice none 0 0), .int .i64 r8, .bool r9] 169 (0, 0))) ∧ Aside0 (w'.heap[c0]? = some (.cells #[.int .i64 b7, .int .i64 b8, .int .i64 b9, (.slice b0 a7.length b1)] 32 (0, 0))) ∧ Aside0 (w'.heap[b3]? = some (.cells #[.int .i64 0, .int .i64 0, .int .i64 0, (.slice none 0 0), .int .i64 a4, .bool false] 169 (0, 0))) ∧ Aside0 (Below w.heap.size w w'))
          case atStart => exact ⟨(a4), (d4), (d5), (d6), (d7), (d8), zS, H', ⟨Nat.le_refl _⟩, ⟨zR b2.out⟩, ⟨zR a2.out⟩, ⟨zR a9.out⟩, ⟨zK a3.out⟩, ⟨zK a6.out⟩, ⟨zK a1.out⟩, ⟨zW HB.out⟩⟩
          case round =>
           clear H'
           try clear c1
           try clear p1
           try clear q1
           try clear hx1
           try clear c2
           try clear p2
           try clear c3
           try clear c4
           try clear p4
           try clear q4
           try clear hx4
           try clear hf4
           try clear c5
           try clear p6
           try clear c7
           try clear c10
           try clear c11
           try clear c12
           try clear c15
           try clear c18
           try clear p18
           try clear q18
           try clear hx18
           try clear c19
           try clear d1
           try clear d2
           try clear i5
           try clear c25
           try clear c26
           try clear c28
           try clear c31
           try clear e2
           try clear c32
           try clear v0
           try clear c33
           try clear c34
           try clear c36
           try clear c37
           try clear c39
           try clear c40
           try clear C9
           try clear c41
           try clear D0
           try clear c43
           try clear c44
           try clear D1
           try clear j2
           try clear j4
           try clear hx45
           try clear hf45
           try clear c46
           try clear c47
           try clear c52
           try clear c53
           try clear c55
           try clear c57
           try clear c58
           try clear g4 g5 g6 g7 g8 g9 h0 h1
           try clear h2 h3 h4 h5 h6 h7 h8 h9 i0 i1 i2 i3
           try clear j7 j8 j9 k0 k1 k2 k4 k6 k7 k8 k9 l2
           try clear l3 l4 l5 l6 l7 l8 l9 m0 m1 m2 m3 m4
           try clear m5 m6 m7 m8 m9 n0 n1 n2 n3 n4 n5 n6
           try clear v1 v2 v3 v4 v5 v6 v7 v8 v9 x0 x1 x2
           try clear x4 x5 x6 x7 x8 x9 y0 y1 y2 y3 y4 y5
           try clear y7 y8 y9 z0 z1 z2 z3 z4 z5 z6 z7 z8
           try clear D6 D7 D8 D9 E0 E1 E2 E3 E4 E5 E6 E7
           try clear A4 A5 A6 A7 A8 A9 B0 B1 B2 B3 B4 B5
           try clear E8 E9 F0 F1 F2 F3 F4 F5 F6 F7 F8 F9
           try clear G0 G1 G2 G3 G4 G5 G6 G7 G8 G9 I0 I1
           try clear f6 f7 f8 f9 g0 g1 g2 g3
           try clear x3
           try clear z9
           try clear D5
           try clear p1
           try clear p18
           try clear i6
           try clear d9
           try clear p2
           try clear j2
           try clear q1
           try clear q18
           try clear i7
           try clear e0
           try clear j4
           obtain ⟨d0, q9, r0, r7, r8, r9, rfl, HA, B6, b2, a2, a9, a3, a6, a1, HB⟩ := hrel
           cases gk with
           | zero => exact absurd HA.out (by simp [spec_l4Read.l1])
           | succ k5 =>
            have H := HA.out
            clear HA
            simp only [spec_l4Read.l1] at H
            replace H := zI0 H
            rcases H with ⟨I3, H⟩ | ⟨I3, H⟩
            ·replace H := zD0 H
             obtain ⟨Q2, H⟩ := H
             replace H := zI1 H
             rcases H with ⟨f4, H⟩ | ⟨f4, H⟩
             ·have I4 := beq_iff_eq.mpr f4
              have I5 := bne_eq_false_iff_eq.mpr f4
              clear f4
              have H' := Aside0.mk H
              clear H
              have e3 : 0 ≤ (d0 : Int) := zD
              have e4 : d0 < (a5.length : Int) := zD
              obtain ⟨I6, t0, I7⟩ := Kd.at_string (Kd.R_reads' b2.out).2.2 d0 e3 e4
              cases t0
              replace e3 := eq_true e3
              replace e4 := eq_true e4
              go_wp2
              go_roundg k5
              case measure => have := e1.out; have := f1.out; have := f2.out; have := n7.out; have := B6.out; omega
              case rel => exact ⟨(wrap64 (d0 + 1)), (q9), (r0), (r7), (r8), (r9), zS, H', ⟨by have := e1.out; have := f1.out; have := f2.out; have := n7.out; have := B6.out; omega⟩, ⟨zR b2.out⟩, ⟨zR a2.out⟩, ⟨zR a9.out⟩, ⟨zK a3.out⟩, ⟨zK a6.out⟩, ⟨zK a1.out⟩, ⟨zW HB.out⟩⟩
             ·have I4 := beq_eq_false_iff_ne.mpr f4
              have I5 := bne_iff_ne.mpr f4
              simp only [Option.some.injEq, Prod.mk.injEq] at H
              obtain ⟨rfl, rfl, rfl, rfl, rfl, rfl⟩ := H
              have e3 : 0 ≤ (d0 : Int) := zD
              have e4 : d0 < (a5.length : Int) := zD
              obtain ⟨I6, t0, I7⟩ := Kd.at_string (Kd.R_reads' b2.out).2.2 d0 e3 e4
              cases t0
              replace e3 := eq_true e3
              replace e4 := eq_true e4
              have Q3 := e7.out
              have Q4 := e8.out
              have Q5 := b5.out
              have Q6 := b6.out
              obtain ⟨Q7, Q8, Q9, R0, R1, R2, R3, R4, R5, R6, R7, R8⟩ := ze6 a3.out
              go_wp2
              refine bodyPost_ret (results_cell_row rfl _ _ b4 169 #[.int .i64 0, .int .i64 0, .int .i64 0, .slice none 0 0, .int .i64 0, .bool false] (0, 0) _ rfl (zk6 a3.out) Tryz.underlying169 rfl (by kernel_rfl)) rfl ?_
              exact ⟨_, zE, by first | exact Kd.R_nil _ _ _ _ _ | exact Kd.N_nil _ _ _ _ _ | exact Kd.V_nil _ _ _ _ _ | exact Kd.Q_nil _ _ _ _ _ | exact Kd.S_nil _ _ _ _ _, zW HB.out⟩
            ·replace H := zC0 H
             obtain ⟨B7, H⟩ := H
             have R9 := decide_eq_true B7
             have T0 : decide (0 < a8.length) = true := decide_eq_true (by omega)
             clear B7
             replace H := zC0 H
             obtain ⟨B8, H⟩ := H
             have T1 := decide_eq_true B8
             have T2 : decide (1 < a8.length) = true := decide_eq_true (by omega)
             clear B8
             replace H := zC0 H
             obtain ⟨B9, H⟩ := H
             have T3 := decide_eq_true B9
             have T4 : decide (2 < a8.length) = true := decide_eq_true (by omega)
             clear B9
             replace H := zj H
             obtain ⟨C0, I8, H⟩ := H
             try dsimp only at H
             simp only [Option.some.injEq, Prod.mk.injEq] at H
             obtain ⟨rfl, rfl, rfl, rfl, rfl, rfl⟩ := H
             try go_wp2
             replace b2 := zA (Kd.R_drew b2.out)
             replace a2 := zA (Kd.R_drew a2.out)
             replace a9 := zA (Kd.R_drew a9.out)
             replace a3 := zA (blk_drew a3.out)
             replace a6 := zA (blk_drew a6.out)
             replace a1 := zA (blk_drew a1.out)
             replace HB := zA (below_drew1 HB.out)
             obtain ⟨T5, T6, C1⟩ := Kd.R_slice a2.out
             (first | subst C1 | (injection C1 with f1_ f2_ f3_; have I9 := f1_.symm; have J0 := f3_.symm; clear f1_ f2_ f3_; subst I9; subst J0))
             have t1 : 0 ≤ (0 : Int) := (by omega)
             have t2 : 0 < (a8.length : Int) := zD
             obtain ⟨e5, J1, n8⟩ := Kd.at_int (Kd.R_reads' a2.out).2.2 0 t1 t2
             cases J1
             have T7 : (0 < a8.length) = True := eq_true (by omega)
             (try rw [show ((0 : Int)).toNat = 0 from rfl] at n8)
             (try rw [Addr.add_zero'] at n8)
             replace t1 := eq_true t1
             replace t2 := eq_true t2
             have t3 : 0 ≤ (1 : Int) := (by omega)
             have t4 : 1 < (a8.length : Int) := zD
             obtain ⟨J2, J3, n9⟩ := Kd.at_int (Kd.R_reads' a2.out).2.2 1 t3 t4
             obtain rfl : e5 = J2 := (by injection J3)
             (try simp only [show (1 : Int).toNat = 1 from rfl, Nat.reduceMul, Nat.reduceEqDiff, Go.Addr.add, ↓reduceIte] at n9)
             have T8 : (1 < a8.length) = True := eq_true (by omega)
             (try rw [show ((1 : Int)).toNat = 1 from rfl] at n9)
             replace t3 := eq_true t3
             replace t4 := eq_true t4
             have t5 : 0 ≤ (2 : Int) := (by omega)
             have t6 : 2 < (a8.length : Int) := zD
             obtain ⟨J4, J5, o0⟩ := Kd.at_int (Kd.R_reads' a2.out).2.2 2 t5 t6
             obtain rfl : e5 = J4 := (by injection J5)
             (try simp only [show (2 : Int).toNat = 2 from rfl, Nat.reduceMul, Nat.reduceEqDiff, Go.Addr.add, ↓reduceIte] at o0)
             have T9 : (2 < a8.length) = True := eq_true (by omega)
             (try rw [show ((2 : Int)).toNat = 2 from rfl] at o0)
             replace t5 := eq_true t5
             replace t6 := eq_true t6
             refine start_ (n := 12) (S := fun w' => w'.cell? e5 = some (.int .i64 (rd a8 0)) ∧ w'.cell? ⟨e5.block, e5.off + 1, none⟩ = some (.int .i64 (rd a8 1)) ∧ w'.cell? ⟨e5.block, e5.off + 2, none⟩ = some (.int .i64 (rd a8 2))) (ds := []) (Array.replicate 12 false) (by kernel_rfl) rfl rfl ⟨n8, n9, o0⟩ (fun hHeld => ?_); refine with_tabW spec_l4Read.tab20 spec_l4Read.bits20 (fun HT_ HW_ => ?_)
             generalize wr.drew = U0 at b2 a2 a9 a3 a6 a1 HB n8 n9 o0 hHeld ⊢
             refine zp 0 75 ?_
             refine zp 1 76 ?_
             refine zp 3 78 ?_
             refine zp 4 79 ?_
             refine zp 6 81 ?_
             refine zp 7 82 ?_
             refine zt 2 77 ?_
             refine zt 5 80 ?_
             refine zt 8 83 ?_
             refine zp 9 84 ?_
             refine zp 10 85 ?_
             refine zo 11 none fun K hK => ?_
             have U1 := zc0 a1.out
             have U2 := zF a1.out 0
             have U3 := b5.out
             have U4 := c6.out
             have U5 := b6.out
             have U6 := c8.out
             have U7 := zc1 a1.out
             have U8 := zF a1.out 1
             have U9 := b5.out
             have V0 := c6.out
             have V1 := b6.out
             have V2 := c8.out
             have V3 := zc2 a1.out
             have V4 := zF a1.out 2
             have V5 := b5.out
             have V6 := c6.out
             have V7 := b6.out
             have V8 := c8.out
             have V9 := zc3 a1.out
             have X0 := zF a1.out 3
             have X1 := b5.out
             have X2 := c6.out
             have X3 := b6.out
             have X4 := c8.out
             refine skip_ (w1 := ?_) (by rfl) rfl ?_ ?_
             rotate_left
             ·go_simp
              rfl
             refine hK.out _ _ ⟨((cell_far (p := ⟨b3, _, none⟩) (by first | (rw [add_block]; exact Kd.own_blk (Kd.R_ne a2.out a1.out (by decide))) | (dsimp only; exact Kd.own_blk (Kd.R_ne a2.out a1.out (by decide))) | exact Kd.own_blk (Kd.R_ne a2.out a1.out (by decide)) | (show (Addr.add _ _).block ≠ _; rw [add_block]; exact Kd.own_blk (Kd.R_ne a2.out a1.out (by decide)))) _).trans (((cell_far (p := ⟨b3, _, none⟩) (by first | (rw [add_block]; exact Kd.own_blk (Kd.R_ne a2.out a1.out (by decide))) | (dsimp only; exact Kd.own_blk (Kd.R_ne a2.out a1.out (by decide))) | exact Kd.own_blk (Kd.R_ne a2.out a1.out (by decide)) | (show (Addr.add _ _).block ≠ _; rw [add_block]; exact Kd.own_blk (Kd.R_ne a2.out a1.out (by decide)))) _).trans (((cell_far (p := ⟨b3, _, none⟩) (by first | (rw [add_block]; exact Kd.own_blk (Kd.R_ne a2.out a1.out (by decide))) | (dsimp only; exact Kd.own_blk (Kd.R_ne a2.out a1.out (by decide))) | exact Kd.own_blk (Kd.R_ne a2.out a1.out (by decide)) | (show (Addr.add _ _).block ≠ _; rw [add_block]; exact Kd.own_blk (Kd.R_ne a2.out a1.out (by decide)))) _).trans (((cell_far (p := ⟨b3, _, none⟩) (by first | (rw [add_block]; exact Kd.own_blk (Kd.R_ne a2.out a1.out (by decide))) | (dsimp only; exact Kd.own_blk (Kd.R_ne a2.out a1.out (by decide))) | exact Kd.own_blk (Kd.R_ne a2.out a1.out (by decide)) | (show (Addr.add _ _).block ≠ _; rw [add_block]; exact Kd.own_blk (Kd.R_ne a2.out a1.out (by decide)))) _).trans (hHeld.1)))))))), ((cell_far (p := ⟨b3, _, none⟩) (by first | (rw [add_block]; exact Kd.own_blk (Kd.R_ne a2.out a1.out (by decide))) | (dsimp only; exact Kd.own_blk (Kd.R_ne a2.out a1.out (by decide))) | exact Kd.own_blk (Kd.R_ne a2.out a1.out (by decide)) | (show (Addr.add _ _).block ≠ _; rw [add_block]; exact Kd.own_blk (Kd.R_ne a2.out a1.out (by decide)))) _).trans (((cell_far (p := ⟨b3, _, none⟩) (by first | (rw [add_block]; exact Kd.own_blk (Kd.R_ne a2.out a1.out (by decide))) | (dsimp only; exact Kd.own_blk (Kd.R_ne a2.out a1.out (by decide))) | exact Kd.own_blk (Kd.R_ne a2.out a1.out (by decide)) | (show (Addr.add _ _).block ≠ _; rw [add_block]; exact Kd.own_blk (Kd.R_ne a2.out a1.out (by decide)))) _).trans (((cell_far (p := ⟨b3, _, none⟩) (by first | (rw [add_block]; exact Kd.own_blk (Kd.R_ne a2.out a1.out (by decide))) | (dsimp only; exact Kd.own_blk (Kd.R_ne a2.out a1.out (by decide))) | exact Kd.own_blk (Kd.R_ne a2.out a1.out (by decide)) | (show (Addr.add _ _).block ≠ _; rw [add_block]; exact Kd.own_blk (Kd.R_ne a2.out a1.out (by decide)))) _).trans (((cell_far (p := ⟨b3, _, none⟩) (by first | (rw [add_block]; exact Kd.own_blk (Kd.R_ne a2.out a1.out (by decide))) | (dsimp only; exact Kd.own_blk (Kd.R_ne a2.out a1.out (by decide))) | exact Kd.own_blk (Kd.R_ne a2.out a1.out (by decide)) | (show (Addr.add _ _).block ≠ _; rw [add_block]; exact Kd.own_blk (Kd.R_ne a2.out a1.out (by decide)))) _).trans (hHeld.2.1)))))))), ((cell_far (p := ⟨b3, _, none⟩) (by first | (rw [add_block]; exact Kd.own_blk (Kd.R_ne a2.out a1.out (by decide))) | (dsimp only; exact Kd.own_blk (Kd.R_ne a2.out a1.out (by decide))) | exact Kd.own_blk (Kd.R_ne a2.out a1.out (by decide)) | (show (Addr.add _ _).block ≠ _; rw [add_block]; exact Kd.own_blk (Kd.R_ne a2.out a1.out (by decide)))) _).trans (((cell_far (p := ⟨b3, _, none⟩) (by first | (rw [add_block]; exact Kd.own_blk (Kd.R_ne a2.out a1.out (by decide))) | (dsimp only; exact Kd.own_blk (Kd.R_ne a2.out a1.out (by decide))) | exact Kd.own_blk (Kd.R_ne a2.out a1.out (by decide)) | (show (Addr.add _ _).block ≠ _; rw [add_block]; exact Kd.own_blk (Kd.R_ne a2.out a1.out (by decide)))) _).trans (((cell_far (p := ⟨b3, _, none⟩) (by first | (rw [add_block]; exact Kd.own_blk (Kd.R_ne a2.out a1.out (by decide))) | (dsimp only; exact Kd.own_blk (Kd.R_ne a2.out a1.out (by decide))) | exact Kd.own_blk (Kd.R_ne a2.out a1.out (by decide)) | (show (Addr.add _ _).block ≠ _; rw [add_block]; exact Kd.own_blk (Kd.R_ne a2.out a1.out (by decide)))) _).trans (((cell_far (p := ⟨b3, _, none⟩) (by first | (rw [add_block]; exact Kd.own_blk (Kd.R_ne a2.out a1.out (by decide))) | (dsimp only; exact Kd.own_blk (Kd.R_ne a2.out a1.out (by decide))) | exact Kd.own_blk (Kd.R_ne a2.out a1.out (by decide)) | (show (Addr.add _ _).block ≠ _; rw [add_block]; exact Kd.own_blk (Kd.R_ne a2.out a1.out (by decide)))) _).trans (hHeld.2.2))))))))⟩ (fun hHeld => ?_)
             clear hK K
             refine done_ (done_of HT_.out (by kernel_rfl)) ?_
             have X5 := b6.out
             have X6 := b5.out
             have X7 := c8.out
             have X8 := c6.out
             obtain ⟨X9, Y0, Y1, Y2, Y3, Y4, Y5, Y6, Y7, Y8, Y9, Z0⟩ := ze6 a1.out
             try go_wp2_with (first | ((with_reducible refine zq 104 ?_); refine zg (some 88) Tryz.func104 #[.int .i64 a4, .int .i64 1, .int .i64 2] ?_; (with_reducible refine (spec_l1In.calls a4 1 2 C0 _ I8.out).mono ?_); rintro e w' ⟨rfl, ⟨nd, rfl⟩⟩; refine ⟨_, rfl, ?_⟩; have Z1 := e7.out; have Z2 := e8.out; obtain ⟨Z3, Z4, Z5, Z6, Z7, Z8, Z9, a00, a01, a02, a03, a04⟩ := ze6 a3.out))
             refine bodyPost_ret (results_cell_row rfl _ _ b4 169 #[.int .i64 (rd a8 0), .int .i64 (rd a8 1), .int .i64 (rd a8 2), .slice none 0 0, .int .i64 a4, .bool C0] (0, 0) _ rfl (zk6 a3.out) Tryz.underlying169 rfl (by kernel_rfl)) rfl ?_
             exact ⟨_, zE, by first | exact Kd.R_nil _ _ _ _ _ | exact Kd.N_nil _ _ _ _ _ | exact Kd.V_nil _ _ _ _ _ | exact Kd.Q_nil _ _ _ _ _ | exact Kd.S_nil _ _ _ _ _, zW HB.out⟩
end Go.Proofs.YtpcdhoeoefoeoaaGreatDoor.PGC
