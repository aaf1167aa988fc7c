/- The walks of the functions that these laws reach, and what each comes to: printed by this session's program. -/
import Derived.Test.YtpcdhoeoefoeoaaGreatDoorZGAPGAx0
import Derived.Test.YtpcdhoeoefoeoaaGreatDoorZGAPGAx12
import Derived.Test.YtpcdhoeoefoeoaaGreatDoorZGAPGAx17
import Derived.Test.YtpcdhoeoefoeoaaGreatDoorZGASays
import Derived.Test.YtpcdhoeoefoeoaaGreatDoorZGARegN
namespace Go.Proofs.YtpcdhoeoefoeoaaGreatDoor.PGA
open Go.RowKit YtpcdhoeoefoeoaaGreatDoorW.PrintWords YtpcdhoeoefoeoaaGreatDoorW.PrintLast YtpcdhoeoefoeoaaGreatDoorW.PrintMore
attribute [local go_sem high] Mine.str_gtr Mine.str_leq Mine.str_geq
attribute [local go_sem] max2_int min2_int max_two min_two max_three min_three max_four min_four   -- for this text's walks alone
set_option linter.unusedVariables false
set_option maxHeartbeats 8000000
set_option maxRecDepth 100000
set_option linter.unusedSimpArgs false
/-! ### impl_ParseRange: function 32 -/
mutual
def impl_ParseRange.j0 : Nat → List ByteArray → Option ((List (List (S75))) × Bool)
 | 0, _ => none
 | k + 1, x4 => impl_ParseRange.l0 k ([] : List (List (S75))) x4 (x4.length : Int) 0
def impl_ParseRange.l0 : Nat → List (List (S75)) → List ByteArray → Int → Int → Option ((List (List (S75))) × Bool)
 | 0, _, _, _, _ => none
 | k + 1, x5, x15, x16, x17 => if x17 < x16 then (if 0 ≤ x17 then (if x17 < (x15.length : Int) then ((impl_listOf.f k (rdOf ByteArray.empty x15 x17)).bind fun bt616 => (if bt616.2 = true then (if x5.length < 5864062014805 then (impl_ParseRange.l0 k (x5 ++ [bt616.1]) x15 x16 (wrap64 (x17 + 1))) else (none)) else (some (([] : List (List (S75))), false)))) else (none)) else (none)) else (some (x5, true))
end
def impl_ParseRange.f (k : Nat) (a0 : ByteArray) : Option ((List (List (S75))) × Bool) := (strings_Split.f a0 (⟨#[124, 124]⟩ : ByteArray)).bind fun t612 => (if (t612.length : Int) > 4 then (some (([] : List (List (S75))), false)) else (impl_ParseRange.j0 k t612))
theorem impl_ParseRange.calls (k : Nat) (a0 : ByteArray) (r1 : List (List (S75))) (r2 : Bool) (w : World) (hG : GW w) (h : impl_ParseRange.f k a0 = some (r1, r2)) :
  Calls Tryz.prog 32 #[.string a0] w fun e w' => ∃ v0_ : Value, e = .returned (.tuple #[v0_, .bool r2]) ∧ Kd.N (Kd.slice 75 k75) 108 w' w.heap.size (fun k_ => (w.heap.size ≤ k_)) v0_ r1 ∧ Below w.heap.size w w' := by
 have HG := Aside0.mk hG
 clear hG
 have HB := zA (Below.refl w.heap.size w)
 unfold impl_ParseRange.f at h
 have H := h
 clear h
 replace H := zj H
 obtain ⟨t612, A2, H⟩ := H
 try dsimp only at H
 have HC3 := Aside0.mk H
 clear H
 go_enter Tryz.func32, Tryz.ntmps32
 go_upto_if 14 with (first | ((with_reducible refine zq 81 ?_); refine zg (some 11) Tryz.func81 #[.string a0, .string (⟨#[124, 124]⟩ : ByteArray)] ?_; (with_reducible refine (strings_Split.calls a0 (⟨#[124, 124]⟩ : ByteArray) t612 _ ?side1 A2.out).mono ?_); (case side1 => exact GW.below HG.out (zB)); rintro e w4 ⟨v613, rfl, ho0, hb⟩; refine ⟨_, rfl, ?_⟩; have HO614 := zA (Kd.R_lower (Kd.R_newM (M := fun k_ => (w.heap.size ≤ k_)) ho0 (below_size (zB)) (fun k_ h_ => h_)) (below_size (zB))); replace HB := zA (below_step (zB) hb); (try clear hb ho0); obtain ⟨Ao5, co5, eo5⟩ := Kd.R_slice HO614.out; subst eo5))
 (try simp only [Act.put, zT])
 go_cut [] (fun wc => ∃ (kq : Nat), Aside0 (impl_ParseRange.j0 kq t612 = some (r1, r2)) ∧ Aside0 (kq ≤ k) ∧ Aside0 (Kd.R Kd.string 9 wc w.heap.size (fun k_ => (w.heap.size ≤ k_)) (.slice Ao5 t612.length co5) t612) ∧ Aside0 (Below w.heap.size w wc))
 case first =>
  have H := HC3.out
  clear HC3
  replace H := zI1 H
  rcases H with ⟨c6, H⟩ | ⟨c6, H⟩
  ·have c6b0 : decide (4 < (t612.length : Int)) = true := decide_eq_true c6
   have c6b1 : decide (4 < t612.length) = true := decide_eq_true (by omega)
   clear c6
   (first | rw [c6b0] | (simp only [i64_w, i32_w]; rw [c6b0]) | skip)
   simp only [Option.some.injEq, Prod.mk.injEq] at H
   obtain ⟨rfl, rfl⟩ := H
   go_wp2
   go_ret2
   exact ⟨_, zE, by first | exact Kd.R_nil _ _ _ _ _ | exact Kd.N_nil _ _ _ _ _ | exact Kd.V_nil _ _ _ _ _ | exact Kd.Q_nil _ _ _ _ _ | exact Kd.S_nil _ _ _ _ _, zB⟩
  ·have c6b0 : decide (4 < (t612.length : Int)) = false := decide_eq_false c6
   have c6b1 : decide (4 < t612.length) = false := decide_eq_false (by omega)
   clear c6
   (first | rw [c6b0] | (simp only [i64_w, i32_w]; rw [c6b0]) | skip)
   have H' := Aside0.mk H
   clear H
   go_wp2
   go_meet
   case rel => exact ⟨_, (by first | exact H' | (subst_vars; exact H')), ⟨by first | omega | exact Nat.le_refl _⟩, ⟨zR (Kd.R_mono HO614.out (fun _ hk => hk.1))⟩, ⟨zB⟩⟩
 case rest =>
  clear HC3
  try clear p2
  try clear c3
  try clear c6
  try clear c6b0
  try clear c6b1
  obtain ⟨kq, HA, HJ2, HO_4, HB⟩ := hcut
  cases kq with
  | zero => exact absurd HA.out (by simp [impl_ParseRange.j0])
  | succ kj2 =>
   have H := HA.out
   clear HA
   simp only [impl_ParseRange.j0] at H
   have H' := Aside0.mk H
   clear H
   go_wp2
   go_loopg [5, 17] kj2 (fun kq v5 v17 w' => ∃ (x5_2 : List (List (S75))) (x17_2 : Int), v17 = .int .i64 x17_2 ∧ Aside0 (impl_ParseRange.l0 kq x5_2 t612 (t612.length : Int) x17_2 = some (r1, r2)) ∧ Aside0 (kq ≤ kj2) ∧ Aside0 (Kd.N (Kd.slice 75 k75) 108 w' w.heap.size (fun k_ => (w.heap.size ≤ k_) ∧ some k_ ≠ ((.slice Ao5 t612.length co5) : Value).ownBlock) v5 x5_2) ∧ Aside0 (Kd.R Kd.string 9 w' w.heap.size (fun k_ => (w.heap.size ≤ k_)) (.slice Ao5 t612.length co5) t612) ∧ Aside0 (Below w.heap.size w w'))
   case atStart => exact ⟨(([] : List (List (S75)))), (0), zS, H', ⟨Nat.le_refl _⟩, ⟨by first | exact Kd.R_nil _ _ _ _ _ | exact Kd.N_nil _ _ _ _ _ | exact Kd.V_nil _ _ _ _ _ | exact Kd.Q_nil _ _ _ _ _ | exact Kd.S_nil _ _ _ _ _⟩, ⟨zR HO_4.out⟩, ⟨zB⟩⟩
   case round =>
    clear H'
    try clear p2
    try clear c3
    try clear c6
    try clear c6b0
    try clear c6b1
    try clear p2
    obtain ⟨x5_2, x17_2, rfl, HA, HK2, HO_5, HO_15, HB⟩ := hrel
    cases gk with
    | zero => exact absurd HA.out (by simp [impl_ParseRange.l0])
    | succ k2 =>
     have H := HA.out
     clear HA
     simp only [impl_ParseRange.l0] at H
     replace H := zI0 H
     rcases H with ⟨c7b0, H⟩ | ⟨c7b0, H⟩
     ·replace H := zD0 H
      obtain ⟨c8b0, H⟩ := H
      replace H := zD0 H
      obtain ⟨c9b0, H⟩ := H
      replace H := zj H
      obtain ⟨⟨t616, t619⟩, A10, H⟩ := H
      try dsimp only at H
      replace H := zB0 H
      rcases H with ⟨rfl, H⟩ | ⟨rfl, H⟩
      ·replace H := zC0 H
       obtain ⟨c12, H⟩ := H
       have LMc12 := Aside0.mk c12
       clear c12
       obtain ⟨y620, hy620⟩ : ∃ y_ : List (List (S75)), y_ = (x5_2 ++ [t616]) := ⟨_, rfl⟩
       replace H : (impl_ParseRange.l0 k2 y620 t612 (t612.length : Int) (wrap64 (x17_2 + 1))) = some (r1, r2) := zY hy620 H
       have Ny620 := Aside0.mk hy620
       clear hy620
       have H' := Aside0.mk H
       clear H
       have p615 : 0 ≤ (x17_2 : Int) := zD
       have q615 : x17_2 < (t612.length : Int) := zD
       obtain ⟨ad615, e615, hx615_0⟩ := Kd.at_string (Kd.R_reads' HO_15.out).2.2 x17_2 p615 q615
       cases e615
       replace p615 := eq_true p615
       replace q615 := eq_true q615
       go_wp2_with (first | ((with_reducible refine zq 82 ?_); refine zg (some 23) Tryz.func82 #[.string (rdOf ByteArray.empty t612 x17_2)] ?_; (with_reducible refine (impl_listOf.calls k2 (rdOf ByteArray.empty t612 x17_2) t616 true _ ?side1 A10.out).mono ?_); (case side1 => exact GW.below HG.out (zB)); rintro e w13 ⟨v617, rfl, ho0, hb⟩; refine ⟨_, rfl, ?_⟩; have HO618 := zA (Kd.N_lower (Kd.N_mono (ok' := fun k_ => (w.heap.size ≤ k_) ∧ some k_ ≠ (u5 : Value).ownBlock ∧ some k_ ≠ (.slice (some ad615) t612.length co5 : Value).ownBlock) ho0 (fun k_ hk_ => ⟨(Nat.le_trans (below_size (zB)) hk_), (Kd.fresh' (Kd.N_lt (zN HO_5.out)) k_ hk_), (Kd.fresh' (Kd.R_lt (zR HO_15.out)) k_ hk_)⟩)) (below_size (zB))); replace HO_5 := zA (Kd.N_elder' (zN HO_5.out) (Kd.N_base ho0) hb); replace HO_15 := zr HO_15 hb; replace HB := zA (below_step (zB) hb); (try clear hb ho0); obtain ⟨Ao15, co15, eo15⟩ := Kd.N_slice HO618.out; subst eo15) | ((with_reducible refine gate_builtin (b := .append) (xs := #[.tmp 28, .tmp 30]) rfl ?_); at_builtin; refine Kd.N_append (Kd.slice 75 k75) (w0 := w) w.heap.size rfl (.tmp 28) (.tmp 30) 63 108 (.slice none 0 0) 24 rfl Tryz.underlying63 info108 rfl (by decide) (by omega) u5 x5_2 t616 [.slice Ao15 t616.length co15] (fun k_ => (w.heap.size ≤ k_) ∧ some k_ ≠ (.slice (some ad615) t612.length co5 : Value).ownBlock) (fun k_ => ((fun k_ => (w.heap.size ≤ k_) ∧ some k_ ≠ (.slice (some ad615) t612.length co5 : Value).ownBlock)) k_ ∧ some k_ ≠ (u5 : Value).ownBlock) rfl rfl ?aP (fun _ hk => hk) ?aF ?aO ?aB ?aS ?aL ?_; (case aP => exact (Kd.FK_slice_mk (Kd.N_reads' (Kd.N_mono (ok' := (fun k_ => ((fun k_ => (w.heap.size ≤ k_) ∧ some k_ ≠ (.slice (some ad615) t612.length co5 : Value).ownBlock)) k_ ∧ some k_ ≠ (u5 : Value).ownBlock)) (HO618.out) (fun k_ hk => ⟨⟨hk.1, hk.2.2⟩, hk.2.1⟩))).2.1 (Kd.N_F (Kd.N_mono (ok' := (fun k_ => ((fun k_ => (w.heap.size ≤ k_) ∧ some k_ ≠ (.slice (some ad615) t612.length co5 : Value).ownBlock)) k_ ∧ some k_ ≠ (u5 : Value).ownBlock)) (HO618.out) (fun k_ hk => ⟨⟨hk.1, hk.2.2⟩, hk.2.1⟩))))); (case aB => exact (zB)); (case aF => exact (fun k_ hk => ⟨(Nat.le_trans (below_size (zB)) hk), Kd.fresh' (Kd.R_lt (zR HO_15.out)) k_ hk⟩)); (case aO => exact (zNt (Kd.N_mono HO_5.out (fun _ hk => ⟨hk.1.1, hk.1.2⟩)))); (case aS => exact (below_size (zB))); (case aL => have := LMc12.out; omega); intro v621 w14 ho hb hg hat; rw [← Ny620.out] at ho; replace HO_15 := zA (Kd.R_over' (zR HO_15.out) (Kd.N_typed (zN HO_5.out)) (by decide) hg); replace HB := zA (hb); have HO622 := zA (ho); clear HO_5 HO618; clear ho hb hg hat))
       go_roundg k2
       case measure => have := HJ2.out; have := HK2.out; omega
       case rel => exact ⟨(y620), (wrap64 (x17_2 + 1)), zS, H', ⟨by have := HJ2.out; have := HK2.out; omega⟩, ⟨zN HO622.out⟩, ⟨zR HO_15.out⟩, ⟨zB⟩⟩
      ·simp only [Option.some.injEq, Prod.mk.injEq] at H
       obtain ⟨rfl, rfl⟩ := H
       have p615 : 0 ≤ (x17_2 : Int) := zD
       have q615 : x17_2 < (t612.length : Int) := zD
       obtain ⟨ad615, e615, hx615_0⟩ := Kd.at_string (Kd.R_reads' HO_15.out).2.2 x17_2 p615 q615
       cases e615
       replace p615 := eq_true p615
       replace q615 := eq_true q615
       go_wp2_with (first | ((with_reducible refine zq 82 ?_); refine zg (some 23) Tryz.func82 #[.string (rdOf ByteArray.empty t612 x17_2)] ?_; (with_reducible refine (impl_listOf.calls k2 (rdOf ByteArray.empty t612 x17_2) t616 false _ ?side1 A10.out).mono ?_); (case side1 => exact GW.below HG.out (zB)); rintro e w16 ⟨v617, rfl, ho0, hb⟩; refine ⟨_, rfl, ?_⟩; have HO618 := zA (Kd.N_lower (Kd.N_mono (ok' := fun k_ => (w.heap.size ≤ k_) ∧ some k_ ≠ (u5 : Value).ownBlock ∧ some k_ ≠ (.slice (some ad615) t612.length co5 : Value).ownBlock) ho0 (fun k_ hk_ => ⟨(Nat.le_trans (below_size (zB)) hk_), (Kd.fresh' (Kd.N_lt (zN HO_5.out)) k_ hk_), (Kd.fresh' (Kd.R_lt (zR HO_15.out)) k_ hk_)⟩)) (below_size (zB))); replace HO_5 := zA (Kd.N_elder' (zN HO_5.out) (Kd.N_base ho0) hb); replace HO_15 := zr HO_15 hb; replace HB := zA (below_step (zB) hb); (try clear hb ho0)))
       go_ret2
       exact ⟨_, zE, by first | exact Kd.R_nil _ _ _ _ _ | exact Kd.N_nil _ _ _ _ _ | exact Kd.V_nil _ _ _ _ _ | exact Kd.Q_nil _ _ _ _ _ | exact Kd.S_nil _ _ _ _ _, zB⟩
     ·simp only [Option.some.injEq, Prod.mk.injEq] at H
      obtain ⟨rfl, rfl⟩ := H
      go_wp2
      go_ret2
      exact ⟨_, zE, zNt (Kd.N_mono HO_5.out (fun _ hk => hk.1)), zB⟩
/-! ### cmp_Or_int: function 137 -/
def cmp_Or_int.l0 : Nat → Int → List Int → Int → Int → Option (Int)
 | 0, _, _, _, _ => none
 | k + 1, x3, x6, x7, x8 => if x8 < x7 then (if 0 ≤ x8 then (if x8 < (x6.length : Int) then (if (rd x6 x8) = x3 then (cmp_Or_int.l0 k x3 x6 x7 (wrap64 (x8 + 1))) else (some (rd x6 x8))) else (none)) else (none)) else (some x3)
def cmp_Or_int.f (k : Nat) (l0 : List Int) : Option (Int) := cmp_Or_int.l0 k 0 l0 (l0.length : Int) 0
theorem cmp_Or_int.calls (k : Nat) (A0 : Option Addr) (c0 : Nat) (l0 : List Int) (r : Int) (w : World) (hr0 : Kd.C (Kd.int .i64) w A0 l0.length l0) (hc0 : l0.length ≤ c0) (h : cmp_Or_int.f k l0 = some r) :
  Calls Tryz.prog 137 #[.slice A0 l0.length c0] w fun e w' => e = .returned (.int .i64 r) ∧ Drawn0 w w' := by
 have HR0 := Aside0.mk hr0
 have HC0 := Aside0.mk hc0
 clear hr0 hc0
 unfold cmp_Or_int.f at h
 have H := h
 clear h
 have H' := Aside0.mk H
 clear H
 go_enter Tryz.func137, Tryz.ntmps137
 go_wp2
 go_loopg [8] k (fun kq v8 w' => ∃ (x8_1 : Int), v8 = .int .i64 x8_1 ∧ Aside0 (cmp_Or_int.l0 kq 0 l0 (l0.length : Int) x8_1 = some r) ∧ Aside0 (kq ≤ k) ∧ Drawn0 w w')
 case atStart => exact ⟨(0), zS, H', ⟨Nat.le_refl _⟩, by repeat (first | exact Drawn0.refl _ | apply Drawn0.step)⟩
 case round =>
  clear H'
  try clear c1
  obtain ⟨x8_1, rfl, HA, HK1, ⟨m1, rfl⟩⟩ := hrel
  cases gk with
  | zero => exact absurd HA.out (by simp [cmp_Or_int.l0])
  | succ k1 =>
   have H := HA.out
   clear HA
   simp only [cmp_Or_int.l0] at H
   replace H := zI0 H
   rcases H with ⟨c2b0, H⟩ | ⟨c2b0, H⟩
   ·replace H := zD0 H
    obtain ⟨c3b0, H⟩ := H
    replace H := zD0 H
    obtain ⟨c4b0, H⟩ := H
    replace H := zI1 H
    rcases H with ⟨c5, H⟩ | ⟨c5, H⟩
    ·have c5b0 := beq_iff_eq.mpr c5
     have c5b1 := bne_eq_false_iff_eq.mpr c5
     clear c5
     have H' := Aside0.mk H
     clear H
     have p623 : 0 ≤ (x8_1 : Int) := zD
     have q623 : x8_1 < (l0.length : Int) := zD
     obtain ⟨ad623, e623, hx623_0⟩ := Kd.at_int HR0.out x8_1 p623 q623
     cases e623
     replace p623 := eq_true p623
     replace q623 := eq_true q623
     go_wp2
     go_roundg k1
     case measure => have := HK1.out; omega
     case rel => exact ⟨(wrap64 (x8_1 + 1)), zS, H', ⟨by have := HK1.out; omega⟩, by repeat (first | exact Drawn0.refl _ | apply Drawn0.step)⟩
    ·have c5b0 := beq_eq_false_iff_ne.mpr c5
     have c5b1 := bne_iff_ne.mpr c5
     obtain rfl := Option.some.inj H
     have p623 : 0 ≤ (x8_1 : Int) := zD
     have q623 : x8_1 < (l0.length : Int) := zD
     obtain ⟨ad623, e623, hx623_0⟩ := Kd.at_int HR0.out x8_1 p623 q623
     cases e623
     replace p623 := eq_true p623
     replace q623 := eq_true q623
     go_wp2
     go_ret
     exact ⟨by first | rfl | (simp; done) | (simp [*]; done) | (simp; rw [Bool.eq_iff_iff]; simp; done), by repeat (first | exact Drawn0.refl _ | apply Drawn0.step)⟩
   ·obtain rfl := Option.some.inj H
    go_wp2
    go_ret
    exact ⟨by first | rfl | (simp; done) | (simp [*]; done) | (simp; rw [Bool.eq_iff_iff]; simp; done), by repeat (first | exact Drawn0.refl _ | apply Drawn0.step)⟩
/-! ### cmp_isNaN_int: function 171 -/
def cmp_isNaN_int.f (a0 : Int) : Option (Bool) := some (a0 != a0)
theorem cmp_isNaN_int.calls (a0 : Int) (r : Bool) (w : World) (h : cmp_isNaN_int.f a0 = some r) :
  Calls Tryz.prog 171 #[.int .i64 a0] w fun e w' => e = .returned (.bool r) ∧ Drawn0 w w' := by
 unfold cmp_isNaN_int.f at h
 have H := h
 clear h
 obtain rfl := Option.some.inj H
 go_enter Tryz.func171, Tryz.ntmps171
 go_wp2
 go_ret
 exact ⟨by first | rfl | (simp; done) | (simp [*]; done) | (simp; rw [Bool.eq_iff_iff]; simp; done), by repeat (first | exact Drawn0.refl _ | apply Drawn0.step)⟩
/-! ### cmp_Compare_int: function 138 -/
mutual
def cmp_Compare_int.j0 : Nat → Int → Int → Bool → Option (Int)
 | 0, _, _, _ => none
 | k + 1, x0, x1, x6 => if x6 = true then (some 1) else (cmp_Compare_int.j1 k x0 x1)
def cmp_Compare_int.j1 : Nat → Int → Int → Option (Int)
 | 0, _, _ => none
 | k + 1, x0, x1 => if x0 < x1 then (some (-1)) else (if x0 > x1 then (some 1) else (some 0))
end
def cmp_Compare_int.f (k : Nat) (a0 a1 : Int) : Option (Int) := (cmp_isNaN_int.f a0).bind fun t624 => ((cmp_isNaN_int.f a1).bind fun t625 => (if t624 = true then (if t625 = true then (some 0) else (some (-1))) else (cmp_Compare_int.j0 k a0 a1 t625)))
theorem cmp_Compare_int.calls (k : Nat) (a0 a1 r : Int) (w : World) (h : cmp_Compare_int.f k a0 a1 = some r) :
  Calls Tryz.prog 138 #[.int .i64 a0, .int .i64 a1] w fun e w' => e = .returned (.int .i64 r) ∧ Drawn0 w w' := by
 unfold cmp_Compare_int.f at h
 have H := h
 clear h
 replace H := zj H
 obtain ⟨t624, A3, H⟩ := H
 try dsimp only at H
 replace H := zj H
 obtain ⟨t625, A4, H⟩ := H
 try dsimp only at H
 have HC5 := Aside0.mk H
 clear H
 go_enter Tryz.func138, Tryz.ntmps138
 go_upto_if 11 with (first | ((with_reducible refine zq 171 ?_); refine zg (some 8) Tryz.func171 #[.int .i64 a0] ?_; (with_reducible refine (cmp_isNaN_int.calls a0 t624 _ A3.out).mono ?_); rintro e w' ⟨rfl, ⟨nd, rfl⟩⟩; refine ⟨_, rfl, ?_⟩) | ((with_reducible refine zq 171 ?_); refine zg (some 10) Tryz.func171 #[.int .i64 a1] ?_; (with_reducible refine (cmp_isNaN_int.calls a1 t625 _ A4.out).mono ?_); rintro e w' ⟨rfl, ⟨nd, rfl⟩⟩; refine ⟨_, rfl, ?_⟩))
 (try simp only [Act.put, zT])
 go_cut [] (fun wc => ∃ (kq : Nat), Aside0 (cmp_Compare_int.j0 kq a0 a1 t625 = some r) ∧ Aside0 (kq ≤ k) ∧ Drawn0 w wc)
 case first =>
  have H := HC5.out
  clear HC5
  replace H := zB0 H
  rcases H with ⟨rfl, H⟩ | ⟨rfl, H⟩
  ·replace H := zB0 H
   rcases H with ⟨rfl, H⟩ | ⟨rfl, H⟩
   ·obtain rfl := Option.some.inj H
    go_wp2
    go_ret
    exact ⟨by first | rfl | (simp; done) | (simp [*]; done) | (simp; rw [Bool.eq_iff_iff]; simp; done), by repeat (first | exact Drawn0.refl _ | apply Drawn0.step)⟩
   ·obtain rfl := Option.some.inj H
    go_wp2
    go_ret
    exact ⟨by first | rfl | (simp; done) | (simp [*]; done) | (simp; rw [Bool.eq_iff_iff]; simp; done), by repeat (first | exact Drawn0.refl _ | apply Drawn0.step)⟩
  ·have H' := Aside0.mk H
   clear H
   go_wp2
   go_meet
   case rel => exact ⟨_, (by first | exact H' | (subst_vars; exact H')), ⟨by first | omega | exact Nat.le_refl _⟩, by repeat (first | exact Drawn0.refl _ | apply Drawn0.step)⟩
 case rest =>
  clear HC5
  try clear c1
  try clear p2
  try clear c6
  try clear c7
  obtain ⟨kq, HA, HJ4, ⟨mc4, rfl⟩⟩ := hcut
  cases kq with
  | zero => exact absurd HA.out (by simp [cmp_Compare_int.j0])
  | succ kj4 =>
   have H := HA.out
   clear HA
   simp only [cmp_Compare_int.j0] at H
   have HC8 := Aside0.mk H
   clear H
   go_upto_if 13 with (fail)
   go_cut [] (fun wc => ∃ (kq : Nat), Aside0 (cmp_Compare_int.j1 kq a0 a1 = some r) ∧ Aside0 (kq ≤ kj4) ∧ Drawn0 w wc)
   case first =>
    have H := HC8.out
    clear HC8
    replace H := zB0 H
    rcases H with ⟨rfl, H⟩ | ⟨rfl, H⟩
    ·obtain rfl := Option.some.inj H
     go_wp2
     go_ret
     exact ⟨by first | rfl | (simp; done) | (simp [*]; done) | (simp; rw [Bool.eq_iff_iff]; simp; done), by repeat (first | exact Drawn0.refl _ | apply Drawn0.step)⟩
    ·have H' := Aside0.mk H
     clear H
     go_wp2
     go_meet
     case rel => exact ⟨_, (by first | exact H' | (subst_vars; exact H')), ⟨by have := HJ4.out; first | omega | exact Nat.le_refl _⟩, by repeat (first | exact Drawn0.refl _ | apply Drawn0.step)⟩
   case rest =>
    clear HC8
    try clear c1
    try clear p2
    try clear c4
    try clear c6
    try clear c7
    try clear c9
    try clear p2
    obtain ⟨kq, HA, HJ7, ⟨mc7, rfl⟩⟩ := hcut
    cases kq with
    | zero => exact absurd HA.out (by simp [cmp_Compare_int.j1])
    | succ kj7 =>
     have H := HA.out
     clear HA
     simp only [cmp_Compare_int.j1] at H
     replace H := zI0 H
     rcases H with ⟨c10b0, H⟩ | ⟨c10b0, H⟩
     ·obtain rfl := Option.some.inj H
      go_wp2
      go_ret
      exact ⟨by first | rfl | (simp; done) | (simp [*]; done) | (simp; rw [Bool.eq_iff_iff]; simp; done), by repeat (first | exact Drawn0.refl _ | apply Drawn0.step)⟩
     ·replace H := zI1 H
      rcases H with ⟨c11, H⟩ | ⟨c11, H⟩
      ·have c11b0 : decide (a1 < a0) = true := decide_eq_true c11
       clear c11
       obtain rfl := Option.some.inj H
       go_wp2
       go_ret
       exact ⟨by first | rfl | (simp; done) | (simp [*]; done) | (simp; rw [Bool.eq_iff_iff]; simp; done), by repeat (first | exact Drawn0.refl _ | apply Drawn0.step)⟩
      ·have c11b0 : decide (a1 < a0) = false := decide_eq_false c11
       clear c11
       obtain rfl := Option.some.inj H
       go_wp2
       go_ret
       exact ⟨by first | rfl | (simp; done) | (simp [*]; done) | (simp; rw [Bool.eq_iff_iff]; simp; done), by repeat (first | exact Drawn0.refl _ | apply Drawn0.step)⟩
/-! ### cmp_isNaN_string: function 194 -/
def cmp_isNaN_string.f (a0 : ByteArray) : Option (Bool) := some (a0.toList != a0.toList)
theorem cmp_isNaN_string.calls (a0 : ByteArray) (r : Bool) (w : World) (h : cmp_isNaN_string.f a0 = some r) :
  Calls Tryz.prog 194 #[.string a0] w fun e w' => e = .returned (.bool r) ∧ Drawn0 w w' := by
 unfold cmp_isNaN_string.f at h
 have H := h
 clear h
 obtain rfl := Option.some.inj H
 go_enter Tryz.func194, Tryz.ntmps194
 go_wp2
 go_ret
 exact ⟨by first | rfl | (simp; done) | (simp [*]; done) | (simp; rw [Bool.eq_iff_iff]; simp; done), by repeat (first | exact Drawn0.refl _ | apply Drawn0.step)⟩
/-! ### cmp_Compare_string: function 172 -/
mutual
def cmp_Compare_string.j0 : Nat → ByteArray → ByteArray → Bool → Option (Int)
 | 0, _, _, _ => none
 | k + 1, x0, x1, x6 => if x6 = true then (some 1) else (cmp_Compare_string.j1 k x0 x1)
def cmp_Compare_string.j1 : Nat → ByteArray → ByteArray → Option (Int)
 | 0, _, _ => none
 | k + 1, x0, x1 => if (Op.bytesLess x0.toList x1.toList) = true then (some (-1)) else (if (Op.bytesLess x1.toList x0.toList) = true then (some 1) else (some 0))
end
def cmp_Compare_string.f (k : Nat) (a0 a1 : ByteArray) : Option (Int) := (cmp_isNaN_string.f a0).bind fun t626 => ((cmp_isNaN_string.f a1).bind fun t627 => (if t626 = true then (if t627 = true then (some 0) else (some (-1))) else (cmp_Compare_string.j0 k a0 a1 t627)))
theorem cmp_Compare_string.calls (k : Nat) (a0 a1 : ByteArray) (r : Int) (w : World) (h : cmp_Compare_string.f k a0 a1 = some r) :
  Calls Tryz.prog 172 #[.string a0, .string a1] w fun e w' => e = .returned (.int .i64 r) ∧ Drawn0 w w' := by
 unfold cmp_Compare_string.f at h
 have H := h
 clear h
 replace H := zj H
 obtain ⟨t626, A3, H⟩ := H
 try dsimp only at H
 replace H := zj H
 obtain ⟨t627, A4, H⟩ := H
 try dsimp only at H
 have HC5 := Aside0.mk H
 clear H
 go_enter Tryz.func172, Tryz.ntmps172
 go_upto_if 11 with (first | ((with_reducible refine zq 194 ?_); refine zg (some 8) Tryz.func194 #[.string a0] ?_; (with_reducible refine (cmp_isNaN_string.calls a0 t626 _ A3.out).mono ?_); rintro e w' ⟨rfl, ⟨nd, rfl⟩⟩; refine ⟨_, rfl, ?_⟩) | ((with_reducible refine zq 194 ?_); refine zg (some 10) Tryz.func194 #[.string a1] ?_; (with_reducible refine (cmp_isNaN_string.calls a1 t627 _ A4.out).mono ?_); rintro e w' ⟨rfl, ⟨nd, rfl⟩⟩; refine ⟨_, rfl, ?_⟩))
 (try simp only [Act.put, zT])
 go_cut [] (fun wc => ∃ (kq : Nat), Aside0 (cmp_Compare_string.j0 kq a0 a1 t627 = some r) ∧ Aside0 (kq ≤ k) ∧ Drawn0 w wc)
 case first =>
  have H := HC5.out
  clear HC5
  replace H := zB0 H
  rcases H with ⟨rfl, H⟩ | ⟨rfl, H⟩
  ·replace H := zB0 H
   rcases H with ⟨rfl, H⟩ | ⟨rfl, H⟩
   ·obtain rfl := Option.some.inj H
    go_wp2
    go_ret
    exact ⟨by first | rfl | (simp; done) | (simp [*]; done) | (simp; rw [Bool.eq_iff_iff]; simp; done), by repeat (first | exact Drawn0.refl _ | apply Drawn0.step)⟩
   ·obtain rfl := Option.some.inj H
    go_wp2
    go_ret
    exact ⟨by first | rfl | (simp; done) | (simp [*]; done) | (simp; rw [Bool.eq_iff_iff]; simp; done), by repeat (first | exact Drawn0.refl _ | apply Drawn0.step)⟩
  ·have H' := Aside0.mk H
   clear H
   go_wp2
   go_meet
   case rel => exact ⟨_, (by first | exact H' | (subst_vars; exact H')), ⟨by first | omega | exact Nat.le_refl _⟩, by repeat (first | exact Drawn0.refl _ | apply Drawn0.step)⟩
 case rest =>
  clear HC5
  try clear c1
  try clear p2
  try clear c6
  try clear c7
  obtain ⟨kq, HA, HJ4, ⟨mc4, rfl⟩⟩ := hcut
  cases kq with
  | zero => exact absurd HA.out (by simp [cmp_Compare_string.j0])
  | succ kj4 =>
   have H := HA.out
   clear HA
   simp only [cmp_Compare_string.j0] at H
   have HC8 := Aside0.mk H
   clear H
   go_upto_if 13 with (fail)
   go_cut [] (fun wc => ∃ (kq : Nat), Aside0 (cmp_Compare_string.j1 kq a0 a1 = some r) ∧ Aside0 (kq ≤ kj4) ∧ Drawn0 w wc)
   case first =>
    have H := HC8.out
    clear HC8
    replace H := zB0 H
    rcases H with ⟨rfl, H⟩ | ⟨rfl, H⟩
    ·obtain rfl := Option.some.inj H
     go_wp2
     go_ret
     exact ⟨by first | rfl | (simp; done) | (simp [*]; done) | (simp; rw [Bool.eq_iff_iff]; simp; done), by repeat (first | exact Drawn0.refl _ | apply Drawn0.step)⟩
    ·have H' := Aside0.mk H
     clear H
     go_wp2
     go_meet
     case rel => exact ⟨_, (by first | exact H' | (subst_vars; exact H')), ⟨by have := HJ4.out; first | omega | exact Nat.le_refl _⟩, by repeat (first | exact Drawn0.refl _ | apply Drawn0.step)⟩
   case rest =>
    clear HC8
    try clear c1
    try clear p2
    try clear c4
    try clear c6
    try clear c7
    try clear c9
    try clear p2
    obtain ⟨kq, HA, HJ7, ⟨mc7, rfl⟩⟩ := hcut
    cases kq with
    | zero => exact absurd HA.out (by simp [cmp_Compare_string.j1])
    | succ kj7 =>
     have H := HA.out
     clear HA
     simp only [cmp_Compare_string.j1] at H
     replace H := zI1 H
     rcases H with ⟨c10, H⟩ | ⟨c10, H⟩
     ·have c10b0 : (Op.bytesLess a0.toList a1.toList) = true := c10
      clear c10
      obtain rfl := Option.some.inj H
      go_wp2
      go_ret
      exact ⟨by first | rfl | (simp; done) | (simp [*]; done) | (simp; rw [Bool.eq_iff_iff]; simp; done), by repeat (first | exact Drawn0.refl _ | apply Drawn0.step)⟩
     ·have c10b0 : (Op.bytesLess a0.toList a1.toList) = false := by simpa using c10
      clear c10
      replace H := zI1 H
      rcases H with ⟨c11, H⟩ | ⟨c11, H⟩
      ·have c11b0 : (Op.bytesLess a1.toList a0.toList) = true := c11
       clear c11
       obtain rfl := Option.some.inj H
       go_wp2
       go_ret
       exact ⟨by first | rfl | (simp; done) | (simp [*]; done) | (simp; rw [Bool.eq_iff_iff]; simp; done), by repeat (first | exact Drawn0.refl _ | apply Drawn0.step)⟩
      ·have c11b0 : (Op.bytesLess a1.toList a0.toList) = false := by simpa using c11
       clear c11
       obtain rfl := Option.some.inj H
       go_wp2
       go_ret
       exact ⟨by first | rfl | (simp; done) | (simp [*]; done) | (simp; rw [Bool.eq_iff_iff]; simp; done), by repeat (first | exact Drawn0.refl _ | apply Drawn0.step)⟩
/-! ### impl_compareWords: function 140 -/
mutual
def impl_compareWords.j0 : Nat → ByteArray → ByteArray → Bool → Bool → Option (Int)
 | 0, _, _, _, _ => none
 | k + 1, x0, x1, x5, x6 => if x5 = true then (impl_compareWords.j1 k x0 x1 x5 x6 x6) else (impl_compareWords.j1 k x0 x1 x5 x6 false)
def impl_compareWords.j1 : Nat → ByteArray → ByteArray → Bool → Bool → Bool → Option (Int)
 | 0, _, _, _, _, _ => none
 | k + 1, x0, x1, x5, x6, x19 => if x19 = true then ((cmp_Compare_int.f k (x0.size : Int) (x1.size : Int)).bind fun t631 => ((cmp_Compare_string.f k x0 x1).bind fun t632 => ((cmp_Or_int.f k (([t631, t632] : List Int))).bind fun t636 => (some t636)))) else (if x5 = true then (some (-1)) else (if x6 = true then (some 1) else ((cmp_Compare_string.f k x0 x1).bind fun t637 => (some t637))))
end
def impl_compareWords.f (k : Nat) (a0 a1 : ByteArray) : Option (Int) := if a0.toList = ([] : List UInt8) then (if a1.toList = ([] : List UInt8) then (impl_compareWords.j0 k a0 a1 true true) else ((impl_isFigures.f k a1).bind fun t628 => (impl_compareWords.j0 k a0 a1 true t628))) else ((impl_isFigures.f k a0).bind fun t629 => (if a1.toList = ([] : List UInt8) then (impl_compareWords.j0 k a0 a1 t629 true) else ((impl_isFigures.f k a1).bind fun t630 => (impl_compareWords.j0 k a0 a1 t629 t630))))
theorem impl_compareWords.calls (k : Nat) (a0 a1 : ByteArray) (r : Int) (w : World) (h : impl_compareWords.f k a0 a1 = some r) :
  Calls Tryz.prog 140 #[.string a0, .string a1] w fun e w' => e = .returned (.int .i64 r) ∧ Below w.heap.size w w' := by
 have HB := zA (Below.refl w.heap.size w)
 unfold impl_compareWords.f at h
 have H := h
 clear h
 have HC3 := Aside0.mk H
 clear H
 go_enter Tryz.func140, Tryz.ntmps140
 go_upto_region 1 with (fail)
 go_cut [5, 6] (fun v5 v6 wc => ∃ (kq : Nat) (x5_2 : Bool) (x6_2 : Bool), v5 = .bool x5_2 ∧ v6 = .bool x6_2 ∧ Aside0 (impl_compareWords.j0 kq a0 a1 x5_2 x6_2 = some r) ∧ Aside0 (kq ≤ k) ∧ Aside0 (Below w.heap.size w wc))
 case first =>
  have H := HC3.out
  clear HC3
  replace H := zI1 H
  rcases H with ⟨c4, H⟩ | ⟨c4, H⟩
  ·have c4b0 := beq_iff_eq.mpr c4
   have c4b1 := bne_eq_false_iff_eq.mpr c4
   clear c4
   (first | rw [c4b0] | (simp only [i64_w, i32_w]; rw [c4b0]) | rw [show a0.toList.isEmpty = true from by simpa using c4b0] | skip)
   replace H := zI1 H
   rcases H with ⟨c5, H⟩ | ⟨c5, H⟩
   ·have c5b0 := beq_iff_eq.mpr c5
    have c5b1 := bne_eq_false_iff_eq.mpr c5
    clear c5
    have H' := Aside0.mk H
    clear H
    go_wp2
    go_meet
    case rel => exact ⟨_, (true), (true), zS, zS, (by first | exact H' | (subst_vars; exact H')), ⟨by first | omega | exact Nat.le_refl _⟩, ⟨zB⟩⟩
   ·have c5b0 := beq_eq_false_iff_ne.mpr c5
    have c5b1 := bne_iff_ne.mpr c5
    replace H := zj H
    obtain ⟨t628, A6, H⟩ := H
    try dsimp only at H
    have H' := Aside0.mk H
    clear H
    go_wp2_with (first | (go_at_call 151; (with_reducible refine (impl_isFigures.calls k a1 t628 _ A6.out).mono ?_); rintro e w' ⟨rfl, ⟨nd, rfl⟩⟩))
    go_meet
    case rel => exact ⟨_, (true), (t628), zS, zS, (by first | exact H' | (subst_vars; exact H')), ⟨by first | omega | exact Nat.le_refl _⟩, ⟨zB⟩⟩
  ·have c4b0 := beq_eq_false_iff_ne.mpr c4
   have c4b1 := bne_iff_ne.mpr c4
   (first | rw [c4b0] | (simp only [i64_w, i32_w]; rw [c4b0]) | rw [show a0.toList.isEmpty = false from by simpa using c4b0] | skip)
   replace H := zj H
   obtain ⟨t629, A7, H⟩ := H
   try dsimp only at H
   replace H := zI1 H
   rcases H with ⟨c8, H⟩ | ⟨c8, H⟩
   ·have c8b0 := beq_iff_eq.mpr c8
    have c8b1 := bne_eq_false_iff_eq.mpr c8
    clear c8
    have H' := Aside0.mk H
    clear H
    go_wp2_with (first | (go_at_call 151; (with_reducible refine (impl_isFigures.calls k a0 t629 _ A7.out).mono ?_); rintro e w' ⟨rfl, ⟨nd, rfl⟩⟩))
    go_meet
    case rel => exact ⟨_, (t629), (true), zS, zS, (by first | exact H' | (subst_vars; exact H')), ⟨by first | omega | exact Nat.le_refl _⟩, ⟨zB⟩⟩
   ·have c8b0 := beq_eq_false_iff_ne.mpr c8
    have c8b1 := bne_iff_ne.mpr c8
    replace H := zj H
    obtain ⟨t630, A9, H⟩ := H
    try dsimp only at H
    have H' := Aside0.mk H
    clear H
    go_wp2_with (first | (go_at_call 151; (with_reducible refine (impl_isFigures.calls k a0 t629 _ A7.out).mono ?_); rintro e w' ⟨rfl, ⟨nd, rfl⟩⟩) | (go_at_call 151; (with_reducible refine (impl_isFigures.calls k a1 t630 _ A9.out).mono ?_); rintro e w' ⟨rfl, ⟨nd, rfl⟩⟩))
    go_meet
    case rel => exact ⟨_, (t629), (t630), zS, zS, (by first | exact H' | (subst_vars; exact H')), ⟨by first | omega | exact Nat.le_refl _⟩, ⟨zB⟩⟩
 case rest =>
  clear HC3
  try clear c1
  try clear p2
  try clear c4
  try clear c4b0
  try clear c4b1
  try clear c5
  try clear c5b0
  try clear c5b1
  try clear c8
  try clear c8b0
  try clear c8b1
  obtain ⟨kq, x5_2, x6_2, rfl, rfl, HA, HJ2, HB⟩ := hcut
  cases kq with
  | zero => exact absurd HA.out (by simp [impl_compareWords.j0])
  | succ kj2 =>
   have H := HA.out
   clear HA
   simp only [impl_compareWords.j0] at H
   have HC10 := Aside0.mk H
   clear H
   go_upto_region 2 with (fail)
   go_cut [19] (fun v19 wc => ∃ (kq : Nat) (x19_9 : Bool), v19 = .bool x19_9 ∧ Aside0 (impl_compareWords.j1 kq a0 a1 x5_2 x6_2 x19_9 = some r) ∧ Aside0 (kq ≤ kj2) ∧ Aside0 (Below w.heap.size w wc))
   case first =>
    have H := HC10.out
    clear HC10
    replace H := zB0 H
    rcases H with ⟨rfl, H⟩ | ⟨rfl, H⟩
    ·have H' := Aside0.mk H
     clear H
     go_wp2
     go_meet
     case rel => exact ⟨_, (x6_2), zS, (by first | exact H' | (subst_vars; exact H')), ⟨by have := HJ2.out; first | omega | exact Nat.le_refl _⟩, ⟨zB⟩⟩
    ·have H' := Aside0.mk H
     clear H
     go_wp2
     go_meet
     case rel => exact ⟨_, (false), zS, (by first | exact H' | (subst_vars; exact H')), ⟨by have := HJ2.out; first | omega | exact Nat.le_refl _⟩, ⟨zB⟩⟩
   case rest =>
    clear HC10
    try clear c1
    try clear p2
    try clear c4
    try clear c4b0
    try clear c4b1
    try clear c5
    try clear c5b0
    try clear c5b1
    try clear c8
    try clear c8b0
    try clear c8b1
    try clear c11
    try clear p2
    obtain ⟨kq, x19_9, rfl, HA, HJ9, HB⟩ := hcut
    cases kq with
    | zero => exact absurd HA.out (by simp [impl_compareWords.j1])
    | succ kj9 =>
     have H := HA.out
     clear HA
     simp only [impl_compareWords.j1] at H
     replace H := zB0 H
     rcases H with ⟨rfl, H⟩ | ⟨rfl, H⟩
     ·replace H := zj H
      obtain ⟨t631, A13, H⟩ := H
      try dsimp only at H
      replace H := zj H
      obtain ⟨t632, A14, H⟩ := H
      try dsimp only at H
      obtain ⟨y633, hy633⟩ : ∃ y_ : List Int, y_ = (([t631, t632] : List Int)) := ⟨_, rfl⟩
      replace H : ((cmp_Or_int.f kj9 y633).bind fun t636 => (some t636)) = some r := zY hy633 H
      have Ny633 := Aside0.mk hy633
      clear hy633
      replace H := zj H
      obtain ⟨t636, A15, H⟩ := H
      try dsimp only at H
      obtain rfl := Option.some.inj H
      go_wp2_with (first | ((with_reducible refine zq 138 ?_); refine zg (some 28) Tryz.func138 #[.int .i64 (a0.size : Int), .int .i64 (a1.size : Int)] ?_; (with_reducible refine (cmp_Compare_int.calls kj9 (a0.size : Int) (a1.size : Int) t631 _ A13.out).mono ?_); rintro e w' ⟨rfl, ⟨nd, rfl⟩⟩; refine ⟨_, rfl, ?_⟩) | ((with_reducible refine zq 172 ?_); refine zg (some 31) Tryz.func172 #[.string a0, .string a1] ?_; (with_reducible refine (cmp_Compare_string.calls kj9 a0 a1 t632 _ A14.out).mono ?_); rintro e w' ⟨rfl, ⟨nd, rfl⟩⟩; refine ⟨_, rfl, ?_⟩) | ((with_reducible refine gate_dst (N := 32) rfl ?_); refine Kd.R_lit (Kd.int .i64) _ 3 ?hg (N := 32) ?hd (xs := ([t631, t632] : List Int)) (inner := [.int .i64 t631, .int .i64 t632]) (ok := fun _ => True) ?hr ?hp (fun _ hk => hk) trivial (Below.refl _ _) (Nat.le_refl _) (by simp) ?_; (case hd => rfl); (case hg => rfl); (case hr => first | (go_simp; done) | (go_simp; rfl)); (case hp => exact (Reps.one (show Kd.M (Kd.int .i64) _ _ _ t631 [.int .i64 t631] from rfl) (Reps.one (show Kd.M (Kd.int .i64) _ _ _ t632 [.int .i64 t632] from rfl) (Reps.none _ _)))); intro v634 w16 ho17 hb hg_ hnew_; clear hg_ hnew_; (first | rw [← Ny633.out] at ho17 | (simp only [Int.reduceToNat] at ho17; rw [← Ny633.out] at ho17)); have HO635 := zA (Kd.R_lower ho17 (below_size (zB))); replace HB := zA (below_step (zB) hb); clear hb ho17; obtain ⟨Ao18, co18, eo18⟩ := Kd.R_slice HO635.out; subst eo18) | ((with_reducible refine zq 137 ?_); refine zg (some 33) Tryz.func137 #[.slice Ao18 y633.length co18] ?_; (with_reducible refine (cmp_Or_int.calls kj9 _ _ y633 t636 _ ?side1 ?side2 A15.out).mono ?_); (case side1 => repeat (first | exact (Kd.R_reads' HO635.out).2.2 | (with_reducible refine Kd.C_alloc ?_ _) | (with_reducible refine Kd.C_drewN ?_ _) | (with_reducible refine Kd.C_drew ?_))); (case side2 => exact (Kd.R_reads' HO635.out).2.1); rintro e w' ⟨rfl, ⟨nd, rfl⟩⟩; refine ⟨_, rfl, ?_⟩))
      go_ret
      exact ⟨zE, zB⟩
     ·replace H := zB0 H
      rcases H with ⟨rfl, H⟩ | ⟨rfl, H⟩
      ·obtain rfl := Option.some.inj H
       go_wp2
       go_ret
       exact ⟨zE, zB⟩
      ·replace H := zB0 H
       rcases H with ⟨rfl, H⟩ | ⟨rfl, H⟩
       ·obtain rfl := Option.some.inj H
        go_wp2
        go_ret
        exact ⟨zE, zB⟩
       ·replace H := zj H
        obtain ⟨t637, A21, H⟩ := H
        try dsimp only at H
        obtain rfl := Option.some.inj H
        go_wp2_with (first | ((with_reducible refine zq 172 ?_); refine zg (some 40) Tryz.func172 #[.string a0, .string a1] ?_; (with_reducible refine (cmp_Compare_string.calls kj9 a0 a1 t637 _ A21.out).mono ?_); rintro e w' ⟨rfl, ⟨nd, rfl⟩⟩; refine ⟨_, rfl, ?_⟩))
        go_ret
        exact ⟨zE, zB⟩
end Go.Proofs.YtpcdhoeoefoeoaaGreatDoor.PGA
