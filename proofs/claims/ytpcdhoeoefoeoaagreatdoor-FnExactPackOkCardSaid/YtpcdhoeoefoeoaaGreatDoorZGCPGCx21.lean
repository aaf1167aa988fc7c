/- The walks of the functions that these laws reach, and what each comes to: printed by this session's program. -/
import Derived.Test.YtpcdhoeoefoeoaaGreatDoorZGCPGCx0
import Derived.Test.YtpcdhoeoefoeoaaGreatDoorZGCPGCx14
import Derived.Test.YtpcdhoeoefoeoaaGreatDoorZGCPGCx15
import Derived.Test.YtpcdhoeoefoeoaaGreatDoorZGCPGCx20
import Derived.Test.YtpcdhoeoefoeoaaGreatDoorZGCSays
import Derived.Test.YtpcdhoeoefoeoaaGreatDoorZGCRegN
namespace Go.Proofs.YtpcdhoeoefoeoaaGreatDoor.PGC
open Go.RowKit YtpcdhoeoefoeoaaGreatDoorW.PrintWords YtpcdhoeoefoeoaaGreatDoorW.PrintLast YtpcdhoeoefoeoaaGreatDoorW.PrintMore
attribute [local go_sem high] Mine.str_gtr Mine.str_leq Mine.str_geq
attribute [local go_sem] max2_int min2_int max_two min_two max_three min_three max_four min_four   -- for this text's walks alone
set_option linter.unusedVariables false
set_option maxHeartbeats 8000000
set_option maxRecDepth 100000
set_option linter.unusedSimpArgs false
/-! ### impl_ParseRange: function 32 -/
mutual
def impl_ParseRange.j0 : Nat → List ByteArray → Option ((List (List (S75))) × Bool)
 | 0, _ => none
 | k + 1, x4 => impl_ParseRange.l0 k ([] : List (List (S75))) x4 (x4.length : Int) 0
def impl_ParseRange.l0 : Nat → List (List (S75)) → List ByteArray → Int → Int → Option ((List (List (S75))) × Bool)
 | 0, _, _, _, _ => none
 | k + 1, x5, a1, a2, a0 => if a0 < a2 then (if 0 ≤ a0 then (if a0 < (a1.length : Int) then ((impl_listOf.f k (rdOf ByteArray.empty a1 a0)).bind fun a3 => (if a3.2 = true then (if x5.length < 5864062014805 then (impl_ParseRange.l0 k (x5 ++ [a3.1]) a1 a2 (wrap64 (a0 + 1))) else (none)) else (some (([] : List (List (S75))), false)))) else (none)) else (none)) else (some (x5, true))
end
def impl_ParseRange.f (k : Nat) (a0 : ByteArray) : Option ((List (List (S75))) × Bool) := (strings_Split.f a0 (⟨#[124, 124]⟩ : ByteArray)).bind fun a1 => (if (a1.length : Int) > 4 then (some (([] : List (List (S75))), false)) else (impl_ParseRange.j0 k a1))
theorem impl_ParseRange.calls (k : Nat) (a0 : ByteArray) (r1 : List (List (S75))) (r2 : Bool) (w : World) (hG : GW w) (h : impl_ParseRange.f k a0 = some (r1, r2)) :
  Calls Tryz.prog 32 #[.string a0] w fun e w' => ∃ b9 : Value, e = .returned (.tuple #[b9, .bool r2]) ∧ Kd.N (Kd.slice 75 k75) 108 w' w.heap.size (fun k_ => (w.heap.size ≤ k_)) b9 r1 ∧ Below w.heap.size w w' := by
 have HG := Aside0.mk hG
 clear hG
 have HB := zA (Below.refl w.heap.size w)
 unfold impl_ParseRange.f at h
 have H := h
 clear h
 replace H := zj H
 obtain ⟨a1, A2, H⟩ := H
 try dsimp only at H
 have b4 := Aside0.mk H
 clear H
 go_enter Tryz.func32, Tryz.ntmps32
 go_upto_if 14 with (first | ((with_reducible refine zq 81 ?_); refine zg (some 11) Tryz.func81 #[.string a0, .string (⟨#[124, 124]⟩ : ByteArray)] ?_; (with_reducible refine (strings_Split.calls a0 (⟨#[124, 124]⟩ : ByteArray) a1 _ ?side1 A2.out).mono ?_); (case side1 => exact GW.below HG.out (zB)); rintro e w4 ⟨e1, rfl, a4, hb⟩; refine ⟨_, rfl, ?_⟩; have c0 := zA (Kd.R_lower (Kd.R_newM (M := fun k_ => (w.heap.size ≤ k_)) a4 (below_size (zB)) (fun k_ h_ => h_)) (below_size (zB))); replace HB := zA (below_step (zB) hb); (try clear hb a4); obtain ⟨b5, a6, c9⟩ := Kd.R_slice c0.out; subst c9))
 (try simp only [Act.put, zT])
 go_cut [] (fun wc => ∃ (kq : Nat), Aside0 (impl_ParseRange.j0 kq a1 = some (r1, r2)) ∧ Aside0 (kq ≤ k) ∧ Aside0 (Kd.R Kd.string 9 wc w.heap.size (fun k_ => (w.heap.size ≤ k_)) (.slice b5 a1.length a6) a1) ∧ Aside0 (Below w.heap.size w wc))
 case first =>
  have H := b4.out
  clear b4
  replace H := zI1 H
  rcases H with ⟨c6, H⟩ | ⟨c6, H⟩
  ·have a7 : decide (4 < (a1.length : Int)) = true := decide_eq_true c6
   have b6 : decide (4 < a1.length) = true := decide_eq_true (by omega)
   clear c6
   (first | rw [a7] | (simp only [i64_w, i32_w]; rw [a7]) | skip)
   simp only [Option.some.injEq, Prod.mk.injEq] at H
   obtain ⟨rfl, rfl⟩ := H
   go_wp2
   go_ret2
   exact ⟨_, zE, by first | exact Kd.R_nil _ _ _ _ _ | exact Kd.N_nil _ _ _ _ _ | exact Kd.V_nil _ _ _ _ _ | exact Kd.Q_nil _ _ _ _ _ | exact Kd.S_nil _ _ _ _ _, zB⟩
  ·have a7 : decide (4 < (a1.length : Int)) = false := decide_eq_false c6
   have b6 : decide (4 < a1.length) = false := decide_eq_false (by omega)
   clear c6
   (first | rw [a7] | (simp only [i64_w, i32_w]; rw [a7]) | skip)
   have H' := Aside0.mk H
   clear H
   go_wp2
   go_meet
   case rel => exact ⟨_, (by first | exact H' | (subst_vars; exact H')), ⟨by first | omega | exact Nat.le_refl _⟩, ⟨zR (Kd.R_mono c0.out (fun _ hk => hk.1))⟩, ⟨zB⟩⟩
 case rest =>
  clear b4
  try clear p2
  try clear c3
  try clear c6
  try clear a7
  try clear b6
  obtain ⟨kq, HA, c1, d0, HB⟩ := hcut
  cases kq with
  | zero => exact absurd HA.out (by simp [impl_ParseRange.j0])
  | succ c2 =>
   have H := HA.out
   clear HA
   simp only [impl_ParseRange.j0] at H
   have H' := Aside0.mk H
   clear H
   go_wp2
   go_loopg [5, 17] c2 (fun kq v5 d1 w' => ∃ (b1 : List (List (S75))) (a2 : Int), d1 = .int .i64 a2 ∧ Aside0 (impl_ParseRange.l0 kq b1 a1 (a1.length : Int) a2 = some (r1, r2)) ∧ Aside0 (kq ≤ c2) ∧ Aside0 (Kd.N (Kd.slice 75 k75) 108 w' w.heap.size (fun k_ => (w.heap.size ≤ k_) ∧ some k_ ≠ ((.slice b5 a1.length a6) : Value).ownBlock) v5 b1) ∧ Aside0 (Kd.R Kd.string 9 w' w.heap.size (fun k_ => (w.heap.size ≤ k_)) (.slice b5 a1.length a6) a1) ∧ Aside0 (Below w.heap.size w w'))
   case atStart => exact ⟨(([] : List (List (S75)))), (0), zS, H', ⟨Nat.le_refl _⟩, ⟨by first | exact Kd.R_nil _ _ _ _ _ | exact Kd.N_nil _ _ _ _ _ | exact Kd.V_nil _ _ _ _ _ | exact Kd.Q_nil _ _ _ _ _ | exact Kd.S_nil _ _ _ _ _⟩, ⟨zR d0.out⟩, ⟨zB⟩⟩
   case round =>
    clear H'
    try clear p2
    try clear c3
    try clear c6
    try clear a7
    try clear b6
    try clear p2
    obtain ⟨b1, a2, rfl, HA, c4, a5, a3, HB⟩ := hrel
    cases gk with
    | zero => exact absurd HA.out (by simp [impl_ParseRange.l0])
    | succ k2 =>
     have H := HA.out
     clear HA
     simp only [impl_ParseRange.l0] at H
     replace H := zI0 H
     rcases H with ⟨d2, H⟩ | ⟨d2, H⟩
     ·replace H := zD0 H
      obtain ⟨e2, H⟩ := H
      replace H := zD0 H
      obtain ⟨e3, H⟩ := H
      replace H := zj H
      obtain ⟨⟨b2, e4⟩, c5, H⟩ := H
      try dsimp only at H
      replace H := zB0 H
      rcases H with ⟨rfl, H⟩ | ⟨rfl, H⟩
      ·replace H := zC0 H
       obtain ⟨c7, H⟩ := H
       have d3 := Aside0.mk c7
       clear c7
       obtain ⟨c8, b7⟩ : ∃ y_ : List (List (S75)), y_ = (b1 ++ [b2]) := ⟨_, rfl⟩
       replace H : (impl_ParseRange.l0 k2 c8 a1 (a1.length : Int) (wrap64 (a2 + 1))) = some (r1, r2) := zY b7 H
       have d4 := Aside0.mk b7
       clear b7
       have H' := Aside0.mk H
       clear H
       have a8 : 0 ≤ (a2 : Int) := zD
       have a9 : a2 < (a1.length : Int) := zD
       obtain ⟨b0, b8, d5⟩ := Kd.at_string (Kd.R_reads' a3.out).2.2 a2 a8 a9
       cases b8
       replace a8 := eq_true a8
       replace a9 := eq_true a9
       go_wp2_with (first | ((with_reducible refine zq 82 ?_); refine zg (some 23) Tryz.func82 #[.string (rdOf ByteArray.empty a1 a2)] ?_; (with_reducible refine (impl_listOf.calls k2 (rdOf ByteArray.empty a1 a2) b2 true _ ?side1 c5.out).mono ?_); (case side1 => exact GW.below HG.out (zB)); rintro e e5 ⟨d6, rfl, a4, hb⟩; refine ⟨_, rfl, ?_⟩; have b3 := zA (Kd.N_lower (Kd.N_mono (ok' := fun k_ => (w.heap.size ≤ k_) ∧ some k_ ≠ (u5 : Value).ownBlock ∧ some k_ ≠ (.slice (some b0) a1.length a6 : Value).ownBlock) a4 (fun k_ hk_ => ⟨(Nat.le_trans (below_size (zB)) hk_), (Kd.fresh' (Kd.N_lt (zN a5.out)) k_ hk_), (Kd.fresh' (Kd.R_lt (zR a3.out)) k_ hk_)⟩)) (below_size (zB))); replace a5 := zA (Kd.N_elder' (zN a5.out) (Kd.N_base a4) hb); replace a3 := zr a3 hb; replace HB := zA (below_step (zB) hb); (try clear hb a4); obtain ⟨d7, d8, d9⟩ := Kd.N_slice b3.out; subst d9) | ((with_reducible refine gate_builtin (b := .append) (xs := #[.tmp 28, .tmp 30]) rfl ?_); at_builtin; refine Kd.N_append (Kd.slice 75 k75) (w0 := w) w.heap.size rfl (.tmp 28) (.tmp 30) 63 108 (.slice none 0 0) 24 rfl Tryz.underlying63 info108 rfl (by decide) (by omega) u5 b1 b2 [.slice d7 b2.length d8] (fun k_ => (w.heap.size ≤ k_) ∧ some k_ ≠ (.slice (some b0) a1.length a6 : Value).ownBlock) (fun k_ => ((fun k_ => (w.heap.size ≤ k_) ∧ some k_ ≠ (.slice (some b0) a1.length a6 : Value).ownBlock)) k_ ∧ some k_ ≠ (u5 : Value).ownBlock) rfl rfl ?aP (fun _ hk => hk) ?aF ?aO ?aB ?aS ?aL ?_; (case aP => exact (Kd.FK_slice_mk (Kd.N_reads' (Kd.N_mono (ok' := (fun k_ => ((fun k_ => (w.heap.size ≤ k_) ∧ some k_ ≠ (.slice (some b0) a1.length a6 : Value).ownBlock)) k_ ∧ some k_ ≠ (u5 : Value).ownBlock)) (b3.out) (fun k_ hk => ⟨⟨hk.1, hk.2.2⟩, hk.2.1⟩))).2.1 (Kd.N_F (Kd.N_mono (ok' := (fun k_ => ((fun k_ => (w.heap.size ≤ k_) ∧ some k_ ≠ (.slice (some b0) a1.length a6 : Value).ownBlock)) k_ ∧ some k_ ≠ (u5 : Value).ownBlock)) (b3.out) (fun k_ hk => ⟨⟨hk.1, hk.2.2⟩, hk.2.1⟩))))); (case aB => exact (zB)); (case aF => exact (fun k_ hk => ⟨(Nat.le_trans (below_size (zB)) hk), Kd.fresh' (Kd.R_lt (zR a3.out)) k_ hk⟩)); (case aO => exact (zNt (Kd.N_mono a5.out (fun _ hk => ⟨hk.1.1, hk.1.2⟩)))); (case aS => exact (below_size (zB))); (case aL => have := d3.out; omega); intro e6 e7 ho hb hg hat; rw [← d4.out] at ho; replace a3 := zA (Kd.R_over' (zR a3.out) (Kd.N_typed (zN a5.out)) (by decide) hg); replace HB := zA (hb); have e0 := zA (ho); clear a5 b3; clear ho hb hg hat))
       go_roundg k2
       case measure => have := c1.out; have := c4.out; omega
       case rel => exact ⟨(c8), (wrap64 (a2 + 1)), zS, H', ⟨by have := c1.out; have := c4.out; omega⟩, ⟨zN e0.out⟩, ⟨zR a3.out⟩, ⟨zB⟩⟩
      ·simp only [Option.some.injEq, Prod.mk.injEq] at H
       obtain ⟨rfl, rfl⟩ := H
       have a8 : 0 ≤ (a2 : Int) := zD
       have a9 : a2 < (a1.length : Int) := zD
       obtain ⟨b0, b8, d5⟩ := Kd.at_string (Kd.R_reads' a3.out).2.2 a2 a8 a9
       cases b8
       replace a8 := eq_true a8
       replace a9 := eq_true a9
       go_wp2_with (first | ((with_reducible refine zq 82 ?_); refine zg (some 23) Tryz.func82 #[.string (rdOf ByteArray.empty a1 a2)] ?_; (with_reducible refine (impl_listOf.calls k2 (rdOf ByteArray.empty a1 a2) b2 false _ ?side1 c5.out).mono ?_); (case side1 => exact GW.below HG.out (zB)); rintro e e8 ⟨d6, rfl, a4, hb⟩; refine ⟨_, rfl, ?_⟩; have b3 := zA (Kd.N_lower (Kd.N_mono (ok' := fun k_ => (w.heap.size ≤ k_) ∧ some k_ ≠ (u5 : Value).ownBlock ∧ some k_ ≠ (.slice (some b0) a1.length a6 : Value).ownBlock) a4 (fun k_ hk_ => ⟨(Nat.le_trans (below_size (zB)) hk_), (Kd.fresh' (Kd.N_lt (zN a5.out)) k_ hk_), (Kd.fresh' (Kd.R_lt (zR a3.out)) k_ hk_)⟩)) (below_size (zB))); replace a5 := zA (Kd.N_elder' (zN a5.out) (Kd.N_base a4) hb); replace a3 := zr a3 hb; replace HB := zA (below_step (zB) hb); (try clear hb a4)))
       go_ret2
       exact ⟨_, zE, by first | exact Kd.R_nil _ _ _ _ _ | exact Kd.N_nil _ _ _ _ _ | exact Kd.V_nil _ _ _ _ _ | exact Kd.Q_nil _ _ _ _ _ | exact Kd.S_nil _ _ _ _ _, zB⟩
     ·simp only [Option.some.injEq, Prod.mk.injEq] at H
      obtain ⟨rfl, rfl⟩ := H
      go_wp2
      go_ret2
      exact ⟨_, zE, zNt (Kd.N_mono a5.out (fun _ hk => hk.1)), zB⟩
/-! ### impl_needOk: function 116 -/
def impl_needOk.f (k : Nat) (a1 a0 : ByteArray) : Option (Bool) := (impl_ParseRange.f k a0).bind fun a2 => (if a2.2 = true then ((impl_NameOk.f k a1).bind fun a3 => (if a3 = true then (some (decide ((a0.size : Int) ≤ 20))) else (some false))) else (some false))
theorem impl_needOk.calls (k : Nat) (a2 a1 : ByteArray) (r : Bool) (w : World) (hG : GW w) (h : impl_needOk.f k a2 a1 = some r) :
  Calls Tryz.prog 116 #[.agg #[.string a2, .string a1]] w fun e w' => e = .returned (.bool r) ∧ Below w.heap.size w w' := by
 have b0 := Tryz.underlying30
 have HG := Aside0.mk hG
 clear hG
 have HB := zA (Below.refl w.heap.size w)
 unfold impl_needOk.f at h
 have H := h
 clear h
 replace H := zj H
 obtain ⟨⟨a5, b1⟩, A2, H⟩ := H
 try dsimp only at H
 replace H := zB0 H
 rcases H with ⟨rfl, H⟩ | ⟨rfl, H⟩
 ·replace H := zj H
  obtain ⟨b2, A4, H⟩ := H
  try dsimp only at H
  replace H := zB0 H
  rcases H with ⟨rfl, H⟩ | ⟨rfl, H⟩
  ·obtain rfl := Option.some.inj H
   go_enter Tryz.func116, Tryz.ntmps116
   go_wp2_with (first | ((with_reducible refine gate_dst (N := 1) rfl ?_); (try (refine gate_guard (by rfl) ?_; dsimp only)); refine box_event ?hg (N := 1) ?hd (cs := #[.string a2, .string a1]) (t := 30) ?hr ?_; (case hd => rfl); (case hg => rfl); (case hr => first | (go_simp; done) | (go_simp; rfl)); intro a3 hg w6 hbox hb; have a0 := zA (hbox); have a6 := zi HB hg; have a7 := zi HB hg; replace HB := zA (below_step (zB) hb); clear hb hbox hg; obtain ⟨b3, b4, b5, b6⟩ := ze2 a0.out) | ((with_reducible refine zq 32 ?_); refine zg (some 8) Tryz.func32 #[.string a1] ?_; (with_reducible refine (impl_ParseRange.calls k a1 a5 true _ ?side1 A2.out).mono ?_); (case side1 => exact GW.below HG.out (zW HB.out)); rintro e w8 ⟨a8, rfl, a4, hb⟩; refine ⟨_, rfl, ?_⟩; have a9 := zA (Kd.N_lower (Kd.N_mono (ok' := fun k_ => k_ ≠ a3) a4 (fun k_ hk_ => (Kd.freshB (g := a3) (o := .cells #[.string a2, .string a1] 30 (0, 0)) (zK a0.out) k_ hk_))) (below_size (zW HB.out))); replace a0 := zb a0 hb; replace HB := zh HB hb; (try clear hb a4); obtain ⟨b7, b8, b9, c0⟩ := ze2 a0.out) | (go_at_call 61; (with_reducible refine (impl_NameOk.calls k a2 true _ A4.out).mono ?_); rintro e w' ⟨rfl, ⟨nd, rfl⟩⟩))
   go_ret
   exact ⟨zE, zW HB.out⟩
  ·obtain rfl := Option.some.inj H
   go_enter Tryz.func116, Tryz.ntmps116
   go_wp2_with (first | ((with_reducible refine gate_dst (N := 1) rfl ?_); (try (refine gate_guard (by rfl) ?_; dsimp only)); refine box_event ?hg (N := 1) ?hd (cs := #[.string a2, .string a1]) (t := 30) ?hr ?_; (case hd => rfl); (case hg => rfl); (case hr => first | (go_simp; done) | (go_simp; rfl)); intro a3 hg c1 hbox hb; have a0 := zA (hbox); have a6 := zi HB hg; have a7 := zi HB hg; replace HB := zA (below_step (zB) hb); clear hb hbox hg; obtain ⟨c2, c3, c4, c5⟩ := ze2 a0.out) | ((with_reducible refine zq 32 ?_); refine zg (some 8) Tryz.func32 #[.string a1] ?_; (with_reducible refine (impl_ParseRange.calls k a1 a5 true _ ?side1 A2.out).mono ?_); (case side1 => exact GW.below HG.out (zW HB.out)); rintro e c6 ⟨a8, rfl, a4, hb⟩; refine ⟨_, rfl, ?_⟩; have a9 := zA (Kd.N_lower (Kd.N_mono (ok' := fun k_ => k_ ≠ a3) a4 (fun k_ hk_ => (Kd.freshB (g := a3) (o := .cells #[.string a2, .string a1] 30 (0, 0)) (zK a0.out) k_ hk_))) (below_size (zW HB.out))); replace a0 := zb a0 hb; replace HB := zh HB hb; (try clear hb a4); obtain ⟨c7, c8, c9, d0⟩ := ze2 a0.out) | (go_at_call 61; (with_reducible refine (impl_NameOk.calls k a2 false _ A4.out).mono ?_); rintro e w' ⟨rfl, ⟨nd, rfl⟩⟩))
   go_ret
   exact ⟨zE, zW HB.out⟩
 ·obtain rfl := Option.some.inj H
  go_enter Tryz.func116, Tryz.ntmps116
  go_wp2_with (first | ((with_reducible refine gate_dst (N := 1) rfl ?_); (try (refine gate_guard (by rfl) ?_; dsimp only)); refine box_event ?hg (N := 1) ?hd (cs := #[.string a2, .string a1]) (t := 30) ?hr ?_; (case hd => rfl); (case hg => rfl); (case hr => first | (go_simp; done) | (go_simp; rfl)); intro a3 hg d1 hbox hb; have a0 := zA (hbox); have a6 := zi HB hg; have a7 := zi HB hg; replace HB := zA (below_step (zB) hb); clear hb hbox hg; obtain ⟨d2, d3, d4, d5⟩ := ze2 a0.out) | ((with_reducible refine zq 32 ?_); refine zg (some 8) Tryz.func32 #[.string a1] ?_; (with_reducible refine (impl_ParseRange.calls k a1 a5 false _ ?side1 A2.out).mono ?_); (case side1 => exact GW.below HG.out (zW HB.out)); rintro e d6 ⟨a8, rfl, a4, hb⟩; refine ⟨_, rfl, ?_⟩; have a9 := zA (Kd.N_lower (Kd.N_mono (ok' := fun k_ => k_ ≠ a3) a4 (fun k_ hk_ => (Kd.freshB (g := a3) (o := .cells #[.string a2, .string a1] 30 (0, 0)) (zK a0.out) k_ hk_))) (below_size (zW HB.out))); replace a0 := zb a0 hb; replace HB := zh HB hb; (try clear hb a4)))
  go_ret
  exact ⟨zE, zW HB.out⟩
end Go.Proofs.YtpcdhoeoefoeoaaGreatDoor.PGC
