/- The walks of the functions that these laws reach, and what each comes to: printed by this session's program. -/
import Derived.Test.YtpcdhoeoefoeoaaGreatDoorZGCPGCx0
import Derived.Test.YtpcdhoeoefoeoaaGreatDoorZGCSays
import Derived.Test.YtpcdhoeoefoeoaaGreatDoorZGCRegs
namespace Go.Proofs.YtpcdhoeoefoeoaaGreatDoor.PGC
open Go.RowKit YtpcdhoeoefoeoaaGreatDoorW.PrintWords YtpcdhoeoefoeoaaGreatDoorW.PrintLast YtpcdhoeoefoeoaaGreatDoorW.PrintMore
attribute [local go_sem high] Mine.str_gtr Mine.str_leq Mine.str_geq
attribute [local go_sem] max2_int min2_int max_two min_two max_three min_three max_four min_four   -- for this text's walks alone
set_option linter.unusedVariables false
set_option maxHeartbeats 8000000
set_option maxRecDepth 100000
set_option linter.unusedSimpArgs false
/-! ### spec_l4From: function 177 -/
def spec_l4From.f (a0 a1 a2 : Int) (a3 : List ByteArray) (a4 : Int) (a5 : Bool) : Option (Int × Int × Int × Int × List ByteArray) := some (4, a0, a1, a2, a3)
theorem spec_l4From.calls (a5 a6 a7 : Int) (a8 : Nat → Prop) (a1 : Option Addr) (a2 : Nat) (a0 : List ByteArray) (a9 : Int) (b0 : Bool) (r1 r2 r3 r4 : Int) (r5 : List ByteArray) (w : World) (b4 : Kd.V Kd.string 9 w w.heap.size (fun k_ => a8 k_) (.slice a1 a0.length a2) a0) (h : spec_l4From.f a5 a6 a7 a0 a9 b0 = some (r1, r2, r3, r4, r5)) :
  Calls Tryz.prog 177 #[.agg #[.int .i64 a5, .int .i64 a6, .int .i64 a7, .slice a1 a0.length a2, .int .i64 a9, .bool b0]] w fun e w' => ∃ b1 : Value, e = .returned (.agg #[.int .i64 r1, .int .i64 r2, .int .i64 r3, .int .i64 r4, b1]) ∧ Kd.V Kd.string 9 w' w.heap.size (fun k_ => (a8 k_ ∨ w.heap.size ≤ k_)) b1 r5 ∧ Below w.heap.size w w' := by
 have b8 := Tryz.underlying169
 have b9 := Tryz.underlying75
 have c0 := Tryz.underlying32
 have a3 := zA (show Kd.V Kd.string 9 w w.heap.size (fun k_ => (a8 k_ ∨ w.heap.size ≤ k_)) (.slice a1 a0.length a2) a0 from Kd.V_mono b4 (fun k_ hk => .inl hk))
 have HB := zA (Below.refl w.heap.size w)
 unfold spec_l4From.f at h
 have H := h
 clear h
 simp only [Option.some.injEq, Prod.mk.injEq] at H
 obtain ⟨rfl, rfl, rfl, rfl, rfl⟩ := H
 go_enter Tryz.func177, Tryz.ntmps177
 go_wp2_with (first | ((with_reducible refine zd 1 ?_); refine ze 1 169 #[.int .i64 a5, .int .i64 a6, .int .i64 a7, .slice a1 a0.length a2, .int .i64 a9, .bool b0] ?_; intro b5 hg w2 hbox hb; replace a3 := zA (Kd.V_below (Kd.V_elderB (zV a3.out) b5 (Nat.le_of_eq hg.symm)) hb); have a4 := zA (hbox); have c1 := zi HB hg; have c2 := zi HB hg; replace HB := zA (below_step (zB) hb); clear hb hbox hg) | ((with_reducible refine zd 2 ?_); refine ze 2 75 #[.int .i64 0, .int .i64 0, .int .i64 0, .int .i64 0, .slice none 0 0] ?_; intro b2 hg w3 hbox hb; replace a3 := zA (Kd.V_below (Kd.V_elderB (zV a3.out) b2 (Nat.le_of_eq hg.symm)) hb); have b3 := zA (hbox); have c3 := zi HB hg; have c4 := zi HB hg; replace HB := zh HB hb; have b6 := zA (zL hg (zK a4.out)); have b7 := zA (zJ hg (zK a4.out)); replace a4 := zb a4 hb; clear hb hbox hg; have c5 := b6.out; have c6 := b7.out; obtain ⟨c7, c8, c9, d0, d1, d2, d3, d4, d5, d6, d7, d8⟩ := ze6 a4.out; obtain ⟨d9, e0, e1, e2, e3, e4, e5, e6, e7, e8⟩ := ze5 b3.out))
 refine bodyPost_ret (results_cell_row rfl _ _ b2 75 #[.int .i64 4, .int .i64 a5, .int .i64 a6, .int .i64 a7, .slice a1 a0.length a2] (0, 0) _ rfl (zk5 b3.out) Tryz.underlying75 rfl (by kernel_rfl)) rfl ?_
 exact ⟨_, zE, zVt (Kd.V_mono (zv5 a3.out (fun _ hk => hk.2)) (fun _ hk => hk.1.1)), zW HB.out⟩
/-! ### spec_l4Below: function 178 -/
def spec_l4Below.f (a0 a1 a2 : Int) (a3 : List ByteArray) : Option (Int × Int × Int × Int × List ByteArray) := some (1, a0, a1, a2, (([(⟨#[48]⟩ : ByteArray)] : List ByteArray)))
theorem spec_l4Below.calls (a1 a2 a3 : Int) (a9 : Option Addr) (b0 : Nat) (a4 : List ByteArray) (r1 r2 r3 r4 : Int) (r5 : List ByteArray) (w : World) (b4 : Kd.C Kd.string w a9 a4.length a4) (b5 : a4.length ≤ b0) (h : spec_l4Below.f a1 a2 a3 a4 = some (r1, r2, r3, r4, r5)) :
  Calls Tryz.prog 178 #[.agg #[.int .i64 a1, .int .i64 a2, .int .i64 a3, .slice a9 a4.length b0]] w fun e w' => ∃ b6 : Value, e = .returned (.agg #[.int .i64 r1, .int .i64 r2, .int .i64 r3, .int .i64 r4, b6]) ∧ Kd.R Kd.string 9 w' w.heap.size (fun _ => True) b6 r5 ∧ Below w.heap.size w w' := by
 have c3 := Tryz.underlying32
 have c4 := Tryz.underlying75
 have c5 := Aside0.mk b4
 have c6 := Aside0.mk b5
 clear b4 b5
 have HB := zA (Below.refl w.heap.size w)
 unfold spec_l4Below.f at h
 have H := h
 clear h
 obtain ⟨a8, b1⟩ : ∃ y_ : List ByteArray, y_ = (([(⟨#[48]⟩ : ByteArray)] : List ByteArray)) := ⟨_, rfl⟩
 replace H : (some (1, a1, a2, a3, a8)) = some (r1, r2, r3, r4, r5) := zY b1 H
 have b7 := Aside0.mk b1
 clear b1
 simp only [Option.some.injEq, Prod.mk.injEq] at H
 obtain ⟨rfl, rfl, rfl, rfl, rfl⟩ := H
 go_enter Tryz.func178, Tryz.ntmps178
 go_wp2_with (first | ((with_reducible refine zd 1 ?_); refine ze 1 32 #[.int .i64 a1, .int .i64 a2, .int .i64 a3, .slice a9 a4.length b0] ?_; intro b9 hg w2 hbox hb; have a0 := zA (hbox); have c7 := zi HB hg; have c8 := zi HB hg; replace HB := zA (below_step (zB) hb); clear hb hbox hg) | ((with_reducible refine zd 2 ?_); refine ze 2 75 #[.int .i64 0, .int .i64 0, .int .i64 0, .int .i64 0, .slice none 0 0] ?_; intro a5 hg w3 hbox hb; have a6 := zA (hbox); have c9 := zi HB hg; have d0 := zi HB hg; replace HB := zh HB hb; have c0 := zA (zL hg (zK a0.out)); have c1 := zA (zJ hg (zK a0.out)); replace a0 := zb a0 hb; clear hb hbox hg) | ((with_reducible refine gate_dst (N := 3) rfl ?_); refine Kd.R_lit Kd.string _ 9 ?hg (N := 3) ?hd (xs := ([(⟨#[48]⟩ : ByteArray)] : List ByteArray)) (inner := [.string (⟨#[48]⟩ : ByteArray)]) (ok := fun _ => True) ?hr ?hp (fun _ hk => hk) trivial (Below.refl _ _) (Nat.le_refl _) (by simp) ?_; (case hd => rfl); (case hg => rfl); (case hr => first | (go_simp; done) | (go_simp; rfl)); (case hp => exact (Reps.one (show Kd.M Kd.string _ _ _ (⟨#[48]⟩ : ByteArray) [.string (⟨#[48]⟩ : ByteArray)] from rfl) (Reps.none _ _))); intro d1 w4 a7 hb hg_ hnew_; clear hg_ hnew_; (first | rw [← b7.out] at a7 | (simp only [Int.reduceToNat] at a7; rw [← b7.out] at a7)); have b8 := zA (Kd.R_lower a7 (below_size (zW HB.out))); replace a0 := zb a0 hb; replace a6 := zb a6 hb; replace HB := zh HB hb; clear hb a7; obtain ⟨b2, b3, c2⟩ := Kd.R_slice b8.out; subst c2; have d2 := c0.out; have d3 := c1.out; obtain ⟨d4, d5, d6, d7, d8, d9, e0, e1⟩ := ze4 a0.out; obtain ⟨e2, e3, e4, e5, e6, e7, e8, e9, f0, f1⟩ := ze5 a6.out))
 refine bodyPost_ret (results_cell_row rfl _ _ a5 75 #[.int .i64 1, .int .i64 a1, .int .i64 a2, .int .i64 a3, .slice b2 a8.length b3] (0, 0) _ rfl (zk5 a6.out) Tryz.underlying75 rfl (by kernel_rfl)) rfl ?_
 exact ⟨_, zE, zR (Kd.R_mono (Kd.R_far (p := ⟨a5, 4, none⟩) (Kd.R_far (p := ⟨a5, 3, none⟩) (Kd.R_far (p := ⟨a5, 2, none⟩) (Kd.R_far (p := ⟨a5, 1, none⟩) (Kd.R_far (p := ⟨a5, 0, none⟩) (Kd.R_far (p := ⟨b9, 3, none⟩) (Kd.R_types (Kd.R_types b8.out a0.out (by decide)) a6.out (by decide)) (fun _ hk => hk.1.2) (.slice b2 a8.length b3)) (fun _ hk => hk.2) (.int .i64 1)) (fun _ hk => hk.2) (.int .i64 a1)) (fun _ hk => hk.2) (.int .i64 a2)) (fun _ hk => hk.2) (.int .i64 a3)) (fun _ hk => hk.2) (.slice b2 a8.length b3)) (fun _ hk => trivial)), zW HB.out⟩
/-! ### spec_l4Caret: function 179 -/
def spec_l4Caret.j0 : Nat → Bool → Int → Int → Int → List ByteArray → Int → Bool → Option (Int × Int × Int × List ByteArray)
 | 0, _, _, _, _, _, _, _ => none
 | k + 1, x3, a1, a0, a2, a4, a3, a5 => if x3 = true then (some (wrap64 (a1 + 1), 0, 0, ([] : List ByteArray))) else (if a0 = 0 then (if a3 = 2 then (some (0, wrap64 (a0 + 1), 0, ([] : List ByteArray))) else (some (0, 0, wrap64 (a2 + 1), ([] : List ByteArray)))) else (some (0, wrap64 (a0 + 1), 0, ([] : List ByteArray))))
def spec_l4Caret.f (k : Nat) (a0 a2 a3 : Int) (a4 : List ByteArray) (a1 : Int) (a5 : Bool) : Option (Int × Int × Int × List ByteArray) := if a0 = 0 then (spec_l4Caret.j0 k (a1 == 1) a0 a2 a3 a4 a1 a5) else (spec_l4Caret.j0 k true a0 a2 a3 a4 a1 a5)
theorem spec_l4Caret.calls (k : Nat) (a4 a3 a5 : Int) (b4 : Option Addr) (b5 : Nat) (a2 : List ByteArray) (a6 : Int) (b2 : Bool) (r1 r2 r3 : Int) (r4 : List ByteArray) (w : World) (b8 : Kd.C Kd.string w b4 a2.length a2) (b9 : a2.length ≤ b5) (h : spec_l4Caret.f k a4 a3 a5 a2 a6 b2 = some (r1, r2, r3, r4)) :
  Calls Tryz.prog 179 #[.agg #[.int .i64 a4, .int .i64 a3, .int .i64 a5, .slice b4 a2.length b5, .int .i64 a6, .bool b2]] w fun e w' => ∃ c0 : Value, e = .returned (.agg #[.int .i64 r1, .int .i64 r2, .int .i64 r3, c0]) ∧ Kd.R Kd.string 9 w' w.heap.size (fun _ => True) c0 r4 ∧ Below w.heap.size w w' := by
 have f5 := Tryz.underlying169
 have f6 := Tryz.underlying32
 have f7 := Aside0.mk b8
 have f8 := Aside0.mk b9
 clear b8 b9
 have HB := zA (Below.refl w.heap.size w)
 unfold spec_l4Caret.f at h
 have H := h
 clear h
 have b6 := Aside0.mk H
 clear H
 go_enter Tryz.func179, Tryz.ntmps179
 go_upto_region 1 with (first | ((with_reducible refine zd 1 ?_); refine ze 1 169 #[.int .i64 a4, .int .i64 a3, .int .i64 a5, .slice b4 a2.length b5, .int .i64 a6, .bool b2] ?_; intro c3 hg w3 hbox hb; have a0 := zA (hbox); have f9 := zi HB hg; have g0 := zi HB hg; replace HB := zA (below_step (zB) hb); clear hb hbox hg) | ((with_reducible refine zd 2 ?_); refine ze 2 32 #[.int .i64 0, .int .i64 0, .int .i64 0, .slice none 0 0] ?_; intro b3 hg w4 hbox hb; have a1 := zA (hbox); have g1 := zi HB hg; have g2 := zi HB hg; replace HB := zh HB hb; have a7 := zA (zL hg (zK a0.out)); have a8 := zA (zJ hg (zK a0.out)); replace a0 := zb a0 hb; clear hb hbox hg))
 (try simp only [Act.put, zT])
 go_cut [3] (fun v3 wc => ∃ (kq : Nat) (b7 : Bool), v3 = .bool b7 ∧ Aside0 (spec_l4Caret.j0 kq b7 a4 a3 a5 a2 a6 b2 = some (r1, r2, r3, r4)) ∧ Aside0 (kq ≤ k) ∧ Aside0 (wc.heap[c3]? = some (.cells #[.int .i64 a4, .int .i64 a3, .int .i64 a5, (.slice b4 a2.length b5), .int .i64 a6, .bool b2] 169 (0, 0))) ∧ Aside0 (wc.heap[b3]? = some (.cells #[.int .i64 0, .int .i64 0, .int .i64 0, (.slice none 0 0)] 32 (0, 0))) ∧ Aside0 (Below w.heap.size w wc))
 case first =>
  have H := b6.out
  clear b6
  replace H := zI1 H
  rcases H with ⟨c5, H⟩ | ⟨c5, H⟩
  ·have a9 := beq_iff_eq.mpr c5
   have c2 := bne_eq_false_iff_eq.mpr c5
   clear c5
   (first | rw [a9] | (simp only [i64_w, i32_w]; rw [a9]) | skip)
   have H' := Aside0.mk H
   clear H
   have g3 := a7.out
   have g4 := a8.out
   obtain ⟨c4, c7, c9, d0, d1, d2, d3, d4, d5, d6, d7, d8⟩ := ze6 a0.out
   go_wp2
   go_meet
   case rel => exact ⟨_, ((a6 == 1)), zS, (by first | exact H' | (subst_vars; exact H')), ⟨by first | omega | exact Nat.le_refl _⟩, ⟨zK a0.out⟩, ⟨zK a1.out⟩, ⟨zW HB.out⟩⟩
  ·have a9 := beq_eq_false_iff_ne.mpr c5
   have c2 := bne_iff_ne.mpr c5
   (first | rw [a9] | (simp only [i64_w, i32_w]; rw [a9]) | skip)
   have H' := Aside0.mk H
   clear H
   have g5 := a7.out
   have g6 := a8.out
   obtain ⟨d9, e0, e1, e2, e3, e4, e5, e6, e7, e8, e9, f0⟩ := ze6 a0.out
   go_wp2
   go_meet
   case rel => exact ⟨_, (true), zS, (by first | exact H' | (subst_vars; exact H')), ⟨by first | omega | exact Nat.le_refl _⟩, ⟨zK a0.out⟩, ⟨zK a1.out⟩, ⟨zW HB.out⟩⟩
 case rest =>
  clear b6
  try clear c1
  try clear p2
  try clear c5
  try clear a9
  try clear c2
  try clear c6
  try clear c8
  try clear c4 c7 c9 d0 d1 d2 d3 d4 d5 d6 d7 d8
  try clear d9 e0 e1 e2 e3 e4 e5 e6 e7 e8 e9 f0
  obtain ⟨kq, b7, rfl, HA, g7, a0, a1, HB⟩ := hcut
  cases kq with
  | zero => exact absurd HA.out (by simp [spec_l4Caret.j0])
  | succ g8 =>
   have H := HA.out
   clear HA
   simp only [spec_l4Caret.j0] at H
   replace H := zB0 H
   rcases H with ⟨rfl, H⟩ | ⟨rfl, H⟩
   ·simp only [Option.some.injEq, Prod.mk.injEq] at H
    obtain ⟨rfl, rfl, rfl, rfl⟩ := H
    have g9 := a7.out
    have h0 := a8.out
    obtain ⟨h1, h2, h3, h4, h5, h6, h7, h8, h9, i0, i1, i2⟩ := ze6 a0.out
    obtain ⟨i3, i4, i5, i6, i7, i8, i9, j1⟩ := ze4 a1.out
    go_wp2
    refine bodyPost_ret (results_cell_row rfl _ _ b3 32 #[.int .i64 (wrap64 (a4 + 1)), .int .i64 0, .int .i64 0, .slice none 0 0] (0, 0) _ rfl (zk4 a1.out) Tryz.underlying32 rfl (by kernel_rfl)) rfl ?_
    exact ⟨_, zE, by first | exact Kd.R_nil _ _ _ _ _ | exact Kd.N_nil _ _ _ _ _ | exact Kd.V_nil _ _ _ _ _ | exact Kd.Q_nil _ _ _ _ _ | exact Kd.S_nil _ _ _ _ _, zW HB.out⟩
   ·replace H := zI1 H
    rcases H with ⟨b0, H⟩ | ⟨b0, H⟩
    ·have f1 := beq_iff_eq.mpr b0
     have f2 := bne_eq_false_iff_eq.mpr b0
     clear b0
     replace H := zI1 H
     rcases H with ⟨b1, H⟩ | ⟨b1, H⟩
     ·have f3 := beq_iff_eq.mpr b1
      have f4 := bne_eq_false_iff_eq.mpr b1
      clear b1
      simp only [Option.some.injEq, Prod.mk.injEq] at H
      obtain ⟨rfl, rfl, rfl, rfl⟩ := H
      have j2 := a7.out
      have j3 := a8.out
      obtain ⟨j4, j5, j6, j7, j8, j9, k0, k1, k2, k3, k4, k5⟩ := ze6 a0.out
      obtain ⟨k6, k7, k8, k9, l0, l1, l2, l3⟩ := ze4 a1.out
      go_wp2
      refine bodyPost_ret (results_cell_row rfl _ _ b3 32 #[.int .i64 0, .int .i64 (wrap64 (a3 + 1)), .int .i64 0, .slice none 0 0] (0, 0) _ rfl (zk4 a1.out) Tryz.underlying32 rfl (by kernel_rfl)) rfl ?_
      exact ⟨_, zE, by first | exact Kd.R_nil _ _ _ _ _ | exact Kd.N_nil _ _ _ _ _ | exact Kd.V_nil _ _ _ _ _ | exact Kd.Q_nil _ _ _ _ _ | exact Kd.S_nil _ _ _ _ _, zW HB.out⟩
     ·have f3 := beq_eq_false_iff_ne.mpr b1
      have f4 := bne_iff_ne.mpr b1
      simp only [Option.some.injEq, Prod.mk.injEq] at H
      obtain ⟨rfl, rfl, rfl, rfl⟩ := H
      have l4 := a7.out
      have l5 := a8.out
      obtain ⟨l6, l7, l8, l9, m0, m1, m2, m3, m4, m5, m6, m7⟩ := ze6 a0.out
      obtain ⟨m8, m9, n0, n1, n2, n3, n4, n5⟩ := ze4 a1.out
      go_wp2
      refine bodyPost_ret (results_cell_row rfl _ _ b3 32 #[.int .i64 0, .int .i64 0, .int .i64 (wrap64 (a5 + 1)), .slice none 0 0] (0, 0) _ rfl (zk4 a1.out) Tryz.underlying32 rfl (by kernel_rfl)) rfl ?_
      exact ⟨_, zE, by first | exact Kd.R_nil _ _ _ _ _ | exact Kd.N_nil _ _ _ _ _ | exact Kd.V_nil _ _ _ _ _ | exact Kd.Q_nil _ _ _ _ _ | exact Kd.S_nil _ _ _ _ _, zW HB.out⟩
    ·have f1 := beq_eq_false_iff_ne.mpr b0
     have f2 := bne_iff_ne.mpr b0
     simp only [Option.some.injEq, Prod.mk.injEq] at H
     obtain ⟨rfl, rfl, rfl, rfl⟩ := H
     have n6 := a7.out
     have n7 := a8.out
     obtain ⟨n8, n9, o0, o1, o2, o3, o4, o5, o6, o7, o8, o9⟩ := ze6 a0.out
     obtain ⟨p0, p1, p3, p4, p5, p6, p7, p8⟩ := ze4 a1.out
     go_wp2
     refine bodyPost_ret (results_cell_row rfl _ _ b3 32 #[.int .i64 0, .int .i64 (wrap64 (a3 + 1)), .int .i64 0, .slice none 0 0] (0, 0) _ rfl (zk4 a1.out) Tryz.underlying32 rfl (by kernel_rfl)) rfl ?_
     exact ⟨_, zE, by first | exact Kd.R_nil _ _ _ _ _ | exact Kd.N_nil _ _ _ _ _ | exact Kd.V_nil _ _ _ _ _ | exact Kd.Q_nil _ _ _ _ _ | exact Kd.S_nil _ _ _ _ _, zW HB.out⟩
/-! ### spec_l4Tilde: function 180 -/
def spec_l4Tilde.f (a0 a1 a3 : Int) (a4 : List ByteArray) (a2 : Int) (a5 : Bool) : Option (Int × Int × Int × List ByteArray) := if a2 = 1 then (some (wrap64 (a0 + 1), 0, 0, ([] : List ByteArray))) else (some (a0, wrap64 (a1 + 1), 0, ([] : List ByteArray)))
theorem spec_l4Tilde.calls (a1 a3 a4 : Int) (a5 : Option Addr) (a6 : Nat) (a0 : List ByteArray) (a7 : Int) (a8 : Bool) (r1 r2 r3 : Int) (r4 : List ByteArray) (w : World) (b2 : Kd.C Kd.string w a5 a0.length a0) (b3 : a0.length ≤ a6) (h : spec_l4Tilde.f a1 a3 a4 a0 a7 a8 = some (r1, r2, r3, r4)) :
  Calls Tryz.prog 180 #[.agg #[.int .i64 a1, .int .i64 a3, .int .i64 a4, .slice a5 a0.length a6, .int .i64 a7, .bool a8]] w fun e w' => ∃ b4 : Value, e = .returned (.agg #[.int .i64 r1, .int .i64 r2, .int .i64 r3, b4]) ∧ Kd.R Kd.string 9 w' w.heap.size (fun _ => True) b4 r4 ∧ Below w.heap.size w w' := by
 have b8 := Tryz.underlying169
 have b9 := Tryz.underlying32
 have c0 := Aside0.mk b2
 have c1 := Aside0.mk b3
 clear b2 b3
 have HB := zA (Below.refl w.heap.size w)
 unfold spec_l4Tilde.f at h
 have H := h
 clear h
 go_enter Tryz.func180, Tryz.ntmps180
 go_upto_if 5 with (first | ((with_reducible refine zd 1 ?_); refine ze 1 169 #[.int .i64 a1, .int .i64 a3, .int .i64 a4, .slice a5 a0.length a6, .int .i64 a7, .bool a8] ?_; intro c3 hg w3 hbox hb; have a2 := zA (hbox); have c4 := zi HB hg; have c5 := zi HB hg; replace HB := zA (below_step (zB) hb); clear hb hbox hg) | ((with_reducible refine zd 2 ?_); refine ze 2 32 #[.int .i64 0, .int .i64 0, .int .i64 0, .slice none 0 0] ?_; intro b5 hg w4 hbox hb; have a9 := zA (hbox); have c6 := zi HB hg; have c7 := zi HB hg; replace HB := zh HB hb; have b6 := zA (zL hg (zK a2.out)); have b7 := zA (zJ hg (zK a2.out)); replace a2 := zb a2 hb; clear hb hbox hg; have c8 := b6.out; have c9 := b7.out; obtain ⟨d0, d1, d2, d3, d4, d5, d6, d7, d8, d9, e0, e1⟩ := ze6 a2.out; obtain ⟨e2, e3, e4, e5, e6, e7, e8, e9⟩ := ze4 a9.out))
 (try simp only [Act.put, zT])
 replace H := zI1 H
 rcases H with ⟨c2, H⟩ | ⟨c2, H⟩
 ·have b0 := beq_iff_eq.mpr c2
  have b1 := bne_eq_false_iff_eq.mpr c2
  clear c2
  simp only [Option.some.injEq, Prod.mk.injEq] at H
  obtain ⟨rfl, rfl, rfl, rfl⟩ := H
  (try simp only [b0, b1])
  go_wp2
  refine bodyPost_ret (results_cell_row rfl _ _ b5 32 #[.int .i64 (wrap64 (a1 + 1)), .int .i64 0, .int .i64 0, .slice none 0 0] (0, 0) _ rfl (zk4 a9.out) Tryz.underlying32 rfl (by kernel_rfl)) rfl ?_
  exact ⟨_, zE, by first | exact Kd.R_nil _ _ _ _ _ | exact Kd.N_nil _ _ _ _ _ | exact Kd.V_nil _ _ _ _ _ | exact Kd.Q_nil _ _ _ _ _ | exact Kd.S_nil _ _ _ _ _, zW HB.out⟩
 ·have b0 := beq_eq_false_iff_ne.mpr c2
  have b1 := bne_iff_ne.mpr c2
  simp only [Option.some.injEq, Prod.mk.injEq] at H
  obtain ⟨rfl, rfl, rfl, rfl⟩ := H
  (try simp only [b0, b1])
  go_wp2
  refine bodyPost_ret (results_cell_row rfl _ _ b5 32 #[.int .i64 a1, .int .i64 (wrap64 (a3 + 1)), .int .i64 0, .slice none 0 0] (0, 0) _ rfl (zk4 a9.out) Tryz.underlying32 rfl (by kernel_rfl)) rfl ?_
  exact ⟨_, zE, by first | exact Kd.R_nil _ _ _ _ _ | exact Kd.N_nil _ _ _ _ _ | exact Kd.V_nil _ _ _ _ _ | exact Kd.Q_nil _ _ _ _ _ | exact Kd.S_nil _ _ _ _ _, zW HB.out⟩
/-! ### spec_l4Next: function 181 -/
def spec_l4Next.f (a0 a1 a3 : Int) (a4 : List ByteArray) (a2 : Int) (a5 : Bool) : Option (Int × Int × Int × List ByteArray) := if a2 = 1 then (some (wrap64 (a0 + 1), 0, 0, ([] : List ByteArray))) else (some (a0, wrap64 (a1 + 1), 0, ([] : List ByteArray)))
theorem spec_l4Next.calls (a1 a3 a4 : Int) (a5 : Option Addr) (a6 : Nat) (a0 : List ByteArray) (a7 : Int) (a8 : Bool) (r1 r2 r3 : Int) (r4 : List ByteArray) (w : World) (b2 : Kd.C Kd.string w a5 a0.length a0) (b3 : a0.length ≤ a6) (h : spec_l4Next.f a1 a3 a4 a0 a7 a8 = some (r1, r2, r3, r4)) :
  Calls Tryz.prog 181 #[.agg #[.int .i64 a1, .int .i64 a3, .int .i64 a4, .slice a5 a0.length a6, .int .i64 a7, .bool a8]] w fun e w' => ∃ b4 : Value, e = .returned (.agg #[.int .i64 r1, .int .i64 r2, .int .i64 r3, b4]) ∧ Kd.R Kd.string 9 w' w.heap.size (fun _ => True) b4 r4 ∧ Below w.heap.size w w' := by
 have b8 := Tryz.underlying169
 have b9 := Tryz.underlying32
 have c0 := Aside0.mk b2
 have c1 := Aside0.mk b3
 clear b2 b3
 have HB := zA (Below.refl w.heap.size w)
 unfold spec_l4Next.f at h
 have H := h
 clear h
 go_enter Tryz.func181, Tryz.ntmps181
 go_upto_if 5 with (first | ((with_reducible refine zd 1 ?_); refine ze 1 169 #[.int .i64 a1, .int .i64 a3, .int .i64 a4, .slice a5 a0.length a6, .int .i64 a7, .bool a8] ?_; intro c3 hg w3 hbox hb; have a2 := zA (hbox); have c4 := zi HB hg; have c5 := zi HB hg; replace HB := zA (below_step (zB) hb); clear hb hbox hg) | ((with_reducible refine zd 2 ?_); refine ze 2 32 #[.int .i64 0, .int .i64 0, .int .i64 0, .slice none 0 0] ?_; intro b5 hg w4 hbox hb; have a9 := zA (hbox); have c6 := zi HB hg; have c7 := zi HB hg; replace HB := zh HB hb; have b6 := zA (zL hg (zK a2.out)); have b7 := zA (zJ hg (zK a2.out)); replace a2 := zb a2 hb; clear hb hbox hg; have c8 := b6.out; have c9 := b7.out; obtain ⟨d0, d1, d2, d3, d4, d5, d6, d7, d8, d9, e0, e1⟩ := ze6 a2.out; obtain ⟨e2, e3, e4, e5, e6, e7, e8, e9⟩ := ze4 a9.out))
 (try simp only [Act.put, zT])
 replace H := zI1 H
 rcases H with ⟨c2, H⟩ | ⟨c2, H⟩
 ·have b0 := beq_iff_eq.mpr c2
  have b1 := bne_eq_false_iff_eq.mpr c2
  clear c2
  simp only [Option.some.injEq, Prod.mk.injEq] at H
  obtain ⟨rfl, rfl, rfl, rfl⟩ := H
  (try simp only [b0, b1])
  go_wp2
  refine bodyPost_ret (results_cell_row rfl _ _ b5 32 #[.int .i64 (wrap64 (a1 + 1)), .int .i64 0, .int .i64 0, .slice none 0 0] (0, 0) _ rfl (zk4 a9.out) Tryz.underlying32 rfl (by kernel_rfl)) rfl ?_
  exact ⟨_, zE, by first | exact Kd.R_nil _ _ _ _ _ | exact Kd.N_nil _ _ _ _ _ | exact Kd.V_nil _ _ _ _ _ | exact Kd.Q_nil _ _ _ _ _ | exact Kd.S_nil _ _ _ _ _, zW HB.out⟩
 ·have b0 := beq_eq_false_iff_ne.mpr c2
  have b1 := bne_iff_ne.mpr c2
  simp only [Option.some.injEq, Prod.mk.injEq] at H
  obtain ⟨rfl, rfl, rfl, rfl⟩ := H
  (try simp only [b0, b1])
  go_wp2
  refine bodyPost_ret (results_cell_row rfl _ _ b5 32 #[.int .i64 a1, .int .i64 (wrap64 (a3 + 1)), .int .i64 0, .slice none 0 0] (0, 0) _ rfl (zk4 a9.out) Tryz.underlying32 rfl (by kernel_rfl)) rfl ?_
  exact ⟨_, zE, by first | exact Kd.R_nil _ _ _ _ _ | exact Kd.N_nil _ _ _ _ _ | exact Kd.V_nil _ _ _ _ _ | exact Kd.Q_nil _ _ _ _ _ | exact Kd.S_nil _ _ _ _ _, zW HB.out⟩
end Go.Proofs.YtpcdhoeoefoeoaaGreatDoor.PGC
