/- The walks of the functions that these laws reach, and what each comes to: printed by this session's program. -/
import Derived.Test.YtpcdhoeoefoeoaaGreatDoorZGAPGAx0
import Derived.Test.YtpcdhoeoefoeoaaGreatDoorZGAPGAx1
import Derived.Test.YtpcdhoeoefoeoaaGreatDoorZGAPGAx2
import Derived.Test.YtpcdhoeoefoeoaaGreatDoorZGAPGAx8
import Derived.Test.YtpcdhoeoefoeoaaGreatDoorZGASays
import Derived.Test.YtpcdhoeoefoeoaaGreatDoorZGARegN
namespace Go.Proofs.YtpcdhoeoefoeoaaGreatDoor.PGA
open Go.RowKit YtpcdhoeoefoeoaaGreatDoorW.PrintWords YtpcdhoeoefoeoaaGreatDoorW.PrintLast YtpcdhoeoefoeoaaGreatDoorW.PrintMore
attribute [local go_sem high] Mine.str_gtr Mine.str_leq Mine.str_geq
attribute [local go_sem] max2_int min2_int max_two min_two max_three min_three max_four min_four   -- for this text's walks alone
set_option linter.unusedVariables false
set_option maxHeartbeats 8000000
set_option maxRecDepth 100000
set_option linter.unusedSimpArgs false
/-! ### spec_ParseRange: function 31 -/
mutual
def spec_ParseRange.l0 : Nat → List (List (S75)) → List ByteArray → Int → Option ((List (List (S75))) × Bool)
 | 0, _, _, _ => none
 | k + 1, x4, x5, x6 => if x6 < (x5.length : Int) then (spec_ParseRange.j1 k x4 x5 x6) else (if (x4.length : Int) > 4 then (some ((([] : List (List (S75)))), false)) else (some (x4, true)))
def spec_ParseRange.j1 : Nat → List (List (S75)) → List ByteArray → Int → Option ((List (List (S75))) × Bool)
 | 0, _, _, _ => none
 | k + 1, x4, x5, x6 => if 0 ≤ x6 then (if x6 < (x5.length : Int) then ((spec_l4Trim.f k (rdOf ByteArray.empty x5 x6)).bind fun t385 => ((spec_Split.f k t385 32).bind fun t386 => ((spec_l4List.f k t386).bind fun bt389 => (if bt389.2 = true then ((spec_l4Good.f k bt389.1).bind fun t393 => (if t393 = true then (if x4.length < 5864062014805 then (spec_ParseRange.l0 k (x4 ++ [bt389.1]) x5 (wrap64 (x6 + 1))) else (none)) else (some ((([] : List (List (S75)))), false)))) else (some ((([] : List (List (S75)))), false)))))) else (none)) else (none)
end
def spec_ParseRange.f (k : Nat) (a0 : ByteArray) : Option ((List (List (S75))) × Bool) := (spec_l4Sides.f k a0).bind fun t378 => (spec_ParseRange.l0 k (([] : List (List (S75)))) t378 0)
theorem spec_ParseRange.calls (k : Nat) (a0 : ByteArray) (r1 : List (List (S75))) (r2 : Bool) (w : World) (h : spec_ParseRange.f k a0 = some (r1, r2)) :
  Calls Tryz.prog 31 #[.string a0] w fun e w' => ∃ v0_ : Value, e = .returned (.tuple #[v0_, .bool r2]) ∧ Kd.N (Kd.slice 75 k75) 108 w' w.heap.size (fun k_ => (w.heap.size ≤ k_)) v0_ r1 ∧ Below w.heap.size w w' := by
 have HB := zA (Below.refl w.heap.size w)
 unfold spec_ParseRange.f at h
 have H := h
 clear h
 obtain ⟨y375, hy375⟩ : ∃ y_ : List (List (S75)), y_ = (([] : List (List (S75)))) := ⟨_, rfl⟩
 replace H : ((spec_l4Sides.f k a0).bind fun t378 => (spec_ParseRange.l0 k y375 t378 0)) = some (r1, r2) := zY hy375 H
 have Ny375 := Aside0.mk hy375
 clear hy375
 replace H := zj H
 obtain ⟨t378, A2, H⟩ := H
 try dsimp only at H
 have H' := Aside0.mk H
 clear H
 go_enter Tryz.func31, Tryz.ntmps31
 go_wp2_with (first | ((with_reducible refine gate_dst (N := 9) rfl ?_); refine Kd.N_lit (Kd.slice 75 k75) _ 108 ?hg (N' := 9) ?hd (xs := ([] : List (List (S75)))) (inner := []) (ok := (fun k_ => (w.heap.size ≤ k_))) ?hr ?hp (fun _ hk => hk) ((show ∀ k_, w.heap.size ≤ k_ → (fun k_ => (w.heap.size ≤ k_)) k_ from fun k_ hk => (Nat.le_trans (below_size (zB)) hk)) _ (Nat.le_refl _)) (Below.refl _ _) (Nat.le_refl _) (by simp) ?_; (case hd => rfl); (case hg => rfl); (case hr => first | (go_simp; done) | (go_simp; rfl)); (case hp => exact (Reps.none _ _)); intro v376 w3 ho4 hb hg_ hnew_; clear hg_ hnew_; (first | rw [← Ny375.out] at ho4 | (simp only [Int.reduceToNat] at ho4; rw [← Ny375.out] at ho4)); have HO377 := zA (Kd.N_lower ho4 (below_size (zB))); replace HB := zA (below_step (zB) hb); clear hb ho4) | ((with_reducible refine zq 76 ?_); refine zg (some 11) Tryz.func76 #[.string a0] ?_; (with_reducible refine (spec_l4Sides.calls k a0 t378 _ A2.out).mono ?_); rintro e w5 ⟨v379, rfl, ho0, hb⟩; refine ⟨_, rfl, ?_⟩; replace HO377 := zA (Kd.N_elder' (zN HO377.out) (Kd.R_base ho0) hb); have HO380 := zA (Kd.R_lower (Kd.R_newM (M := fun k_ => (w.heap.size ≤ k_)) ho0 (below_size (zB)) (fun k_ h_ => h_)) (below_size (zB))); replace HB := zA (below_step (zB) hb); (try clear hb ho0)))
 go_loopg [4, 6] k (fun kq v4 v6 w' => ∃ (x4_1 : List (List (S75))) (x6_1 : Int), v6 = .int .i64 x6_1 ∧ Aside0 (spec_ParseRange.l0 kq x4_1 t378 x6_1 = some (r1, r2)) ∧ Aside0 (kq ≤ k) ∧ Aside0 (Kd.N (Kd.slice 75 k75) 108 w' w.heap.size (fun k_ => (w.heap.size ≤ k_) ∧ some k_ ≠ (v379 : Value).ownBlock) v4 x4_1) ∧ Aside0 (Kd.R Kd.string 9 w' w.heap.size (fun k_ => (w.heap.size ≤ k_)) v379 t378) ∧ Aside0 (Below w.heap.size w w'))
 case atStart => exact ⟨(y375), (0), zS, H', ⟨Nat.le_refl _⟩, ⟨zN HO377.out⟩, ⟨zR (Kd.R_mono HO380.out (fun _ hk => hk.1))⟩, ⟨zB⟩⟩
 case round =>
  clear H'
  try clear p2
  try clear c3
  obtain ⟨x4_1, x6_1, rfl, HA, HK1, HO_4, HO_5, HB⟩ := hrel
  cases gk with
  | zero => exact absurd HA.out (by simp [spec_ParseRange.l0])
  | succ k1 =>
   have H := HA.out
   clear HA
   simp only [spec_ParseRange.l0] at H
   have HC6 := Aside0.mk H
   clear H
   obtain ⟨Ao7, co7, eo7⟩ := Kd.R_slice HO_5.out
   subst eo7
   go_upto_if 15 with (fail)
   go_cut [] (fun wc => ∃ (kq : Nat), Aside0 (spec_ParseRange.j1 kq x4_1 t378 x6_1 = some (r1, r2)) ∧ Aside0 (kq ≤ k1) ∧ Aside0 (Kd.N (Kd.slice 75 k75) 108 wc w.heap.size (fun k_ => (w.heap.size ≤ k_) ∧ some k_ ≠ ((.slice Ao7 t378.length co7) : Value).ownBlock) u4 x4_1) ∧ Aside0 (Kd.R Kd.string 9 wc w.heap.size (fun k_ => (w.heap.size ≤ k_)) (.slice Ao7 t378.length co7) t378) ∧ Aside0 (Below w.heap.size w wc))
   case first =>
    have H := HC6.out
    clear HC6
    replace H := zI0 H
    rcases H with ⟨c8b0, H⟩ | ⟨c8b0, H⟩
    ·(first | rw [c8b0] | (simp only [i64_w, i32_w]; rw [c8b0]) | skip)
     have H' := Aside0.mk H
     clear H
     go_wp2
     go_meet
     case rel => exact ⟨_, (by first | exact H' | (subst_vars; exact H')), ⟨by have := HK1.out; first | omega | exact Nat.le_refl _⟩, ⟨zN HO_4.out⟩, ⟨zR HO_5.out⟩, ⟨zB⟩⟩
    ·(first | rw [c8b0] | (simp only [i64_w, i32_w]; rw [c8b0]) | skip)
     replace H := zI1 H
     rcases H with ⟨c9, H⟩ | ⟨c9, H⟩
     ·have c9b0 : decide (4 < (x4_1.length : Int)) = true := decide_eq_true c9
      have c9b1 : decide (4 < x4_1.length) = true := decide_eq_true (by omega)
      clear c9
      obtain ⟨y381, hy381⟩ : ∃ y_ : List (List (S75)), y_ = (([] : List (List (S75)))) := ⟨_, rfl⟩
      replace H : (some (y381, false)) = some (r1, r2) := zY hy381 H
      have Ny381 := Aside0.mk hy381
      clear hy381
      simp only [Option.some.injEq, Prod.mk.injEq] at H
      obtain ⟨rfl, rfl⟩ := H
      obtain ⟨Ao10, co10, eo10⟩ := Kd.N_slice HO_4.out
      subst eo10
      go_wp2_with (first | ((with_reducible refine gate_dst (N := 43) rfl ?_); refine Kd.N_lit (Kd.slice 75 k75) _ 108 ?hg (N' := 43) ?hd (xs := ([] : List (List (S75)))) (inner := []) (ok := (fun k_ => (w.heap.size ≤ k_) ∧ some k_ ≠ (.slice Ao10 x4_1.length co10 : Value).ownBlock ∧ some k_ ≠ (.slice Ao7 t378.length co7 : Value).ownBlock)) ?hr ?hp (fun _ hk => hk) ((show ∀ k_, wr.heap.size ≤ k_ → (fun k_ => (w.heap.size ≤ k_) ∧ some k_ ≠ (.slice Ao10 x4_1.length co10 : Value).ownBlock ∧ some k_ ≠ (.slice Ao7 t378.length co7 : Value).ownBlock) k_ from fun k_ hk => ⟨(Nat.le_trans (below_size (zB)) hk), Kd.fresh' (Kd.N_lt (zN HO_4.out)) k_ hk, Kd.fresh' (Kd.R_lt (zR HO_5.out)) k_ hk⟩) _ (Nat.le_refl _)) (Below.refl _ _) (Nat.le_refl _) (by simp) ?_; (case hd => rfl); (case hg => rfl); (case hr => first | (go_simp; done) | (go_simp; rfl)); (case hp => exact (Reps.none _ _)); intro v382 w11 ho12 hb hg_ hnew_; clear hg_ hnew_; (first | rw [← Ny381.out] at ho12 | (simp only [Int.reduceToNat] at ho12; rw [← Ny381.out] at ho12)); replace HO_4 := zA (Kd.N_elder' (zN HO_4.out) (Kd.N_base ho12) hb); replace HO_5 := zr HO_5 hb; have HO383 := zA (Kd.N_lower ho12 (below_size (zB))); replace HB := zA (below_step (zB) hb); clear hb ho12))
      go_ret2
      exact ⟨_, zE, zNt (Kd.N_mono HO383.out (fun _ hk => hk.1)), zB⟩
     ·have c9b0 : decide (4 < (x4_1.length : Int)) = false := decide_eq_false c9
      have c9b1 : decide (4 < x4_1.length) = false := decide_eq_false (by omega)
      clear c9
      simp only [Option.some.injEq, Prod.mk.injEq] at H
      obtain ⟨rfl, rfl⟩ := H
      obtain ⟨Ao13, co13, eo13⟩ := Kd.N_slice HO_4.out
      subst eo13
      go_wp2
      go_ret2
      exact ⟨_, zE, zNt (Kd.N_mono HO_4.out (fun _ hk => hk.1)), zB⟩
   case rest =>
    clear HC6
    try clear p2
    try clear c3
    try clear c7
    try clear c8
    try clear c8b0
    try clear c9
    try clear c9b0
    try clear c9b1
    try clear p2
    obtain ⟨kq, HA, HJ5, HO_4, HO_5, HB⟩ := hcut
    cases kq with
    | zero => exact absurd HA.out (by simp [spec_ParseRange.j1])
    | succ kj5 =>
     have H := HA.out
     clear HA
     simp only [spec_ParseRange.j1] at H
     replace H := zD0 H
     obtain ⟨c14b0, H⟩ := H
     replace H := zD0 H
     obtain ⟨c15b0, H⟩ := H
     replace H := zj H
     obtain ⟨t385, A16, H⟩ := H
     try dsimp only at H
     replace H := zj H
     obtain ⟨t386, A17, H⟩ := H
     try dsimp only at H
     replace H := zj H
     obtain ⟨⟨t389, t392⟩, A18, H⟩ := H
     try dsimp only at H
     replace H := zB0 H
     rcases H with ⟨rfl, H⟩ | ⟨rfl, H⟩
     ·replace H := zj H
      obtain ⟨t393, A20, H⟩ := H
      try dsimp only at H
      replace H := zB0 H
      rcases H with ⟨rfl, H⟩ | ⟨rfl, H⟩
      ·replace H := zC0 H
       obtain ⟨c22, H⟩ := H
       have LMc22 := Aside0.mk c22
       clear c22
       obtain ⟨y394, hy394⟩ : ∃ y_ : List (List (S75)), y_ = (x4_1 ++ [t389]) := ⟨_, rfl⟩
       replace H : (spec_ParseRange.l0 kj5 y394 t378 (wrap64 (x6_1 + 1))) = some (r1, r2) := zY hy394 H
       have Ny394 := Aside0.mk hy394
       clear hy394
       have H' := Aside0.mk H
       clear H
       have p384 : 0 ≤ (x6_1 : Int) := zD
       have q384 : x6_1 < (t378.length : Int) := zD
       obtain ⟨ad384, e384, hx384_0⟩ := Kd.at_string (Kd.R_reads' HO_5.out).2.2 x6_1 p384 q384
       cases e384
       replace p384 := eq_true p384
       replace q384 := eq_true q384
       go_wp2_with (first | ((with_reducible refine zq 79 ?_); refine zg (some 23) Tryz.func79 #[.string (rdOf ByteArray.empty t378 x6_1)] ?_; (with_reducible refine (spec_l4Trim.calls kj5 (rdOf ByteArray.empty t378 x6_1) t385 _ A16.out).mono ?_); rintro e w' ⟨rfl, ⟨nd, rfl⟩⟩; refine ⟨_, rfl, ?_⟩) | ((with_reducible refine zq 78 ?_); refine zg (some 24) Tryz.func78 #[.string t385, .int .u8 32] ?_; (with_reducible refine (spec_Split.calls kj5 t385 32 t386 _ A17.out).mono ?_); rintro e w23 ⟨v387, rfl, ho0, hb⟩; refine ⟨_, rfl, ?_⟩; replace HO_4 := zA (Kd.N_elder' (zN HO_4.out) (Kd.R_base ho0) hb); have HO388 := zA (Kd.R_lower (Kd.R_new' (Kd.R_newM (M := fun k_ => (w.heap.size ≤ k_)) ho0 (below_size (zB)) (fun k_ h_ => h_)) (Kd.R_lt (zR HO_5.out))) (below_size (zB))); replace HO_5 := zA (Kd.R_elder' (zR HO_5.out) (Kd.R_base ho0) hb); replace HB := zA (below_step (zB) hb); (try clear hb ho0); obtain ⟨Ao24, co24, eo24⟩ := Kd.R_slice HO388.out; subst eo24) | ((with_reducible refine zq 77 ?_); refine zg (some 25) Tryz.func77 #[.slice Ao24 t386.length co24] ?_; (with_reducible refine (spec_l4List.calls kj5 _ _ t386 t389 true _ ?side1 ?side2 A18.out).mono ?_); (case side1 => repeat (first | exact (Kd.R_reads' HO388.out).2.2 | (with_reducible refine Kd.C_alloc ?_ _) | (with_reducible refine Kd.C_drewN ?_ _) | (with_reducible refine Kd.C_drew ?_))); (case side2 => exact (Kd.R_reads' HO388.out).2.1); rintro e w25 ⟨v390, rfl, ho0, hb⟩; refine ⟨_, rfl, ?_⟩; have HO391 := zA (Kd.N_lower (Kd.N_mono (ok' := fun k_ => (w.heap.size ≤ k_) ∧ some k_ ≠ (u4 : Value).ownBlock ∧ some k_ ≠ (.slice (some ad384) t378.length co7 : Value).ownBlock ∧ some k_ ≠ (.slice Ao24 t386.length co24 : Value).ownBlock) ho0 (fun k_ hk_ => ⟨(Nat.le_trans (below_size (zB)) hk_), (Kd.fresh' (Kd.N_lt (zN HO_4.out)) k_ hk_), (Kd.fresh' (Kd.R_lt (zR HO_5.out)) k_ hk_), (Kd.fresh' (Kd.R_lt (zR HO388.out)) k_ hk_)⟩)) (below_size (zB))); replace HO_4 := zA (Kd.N_elder' (zN HO_4.out) (Kd.N_base ho0) hb); replace HO_5 := zr HO_5 hb; replace HO388 := zr HO388 hb; replace HB := zA (below_step (zB) hb); (try clear hb ho0); obtain ⟨Ao26, co26, eo26⟩ := Kd.N_slice HO391.out; subst eo26) | (go_at_call 80; (with_reducible refine (spec_l4Good.calls kj5 _ _ t389 true _ ?side1 ?side2 A20.out).mono ?_); (case side1 => repeat (first | exact (Kd.N_reads' HO391.out).2.2 | (with_reducible refine Kd.C_alloc ?_ _) | (with_reducible refine Kd.C_drewN ?_ _) | (with_reducible refine Kd.C_drew ?_))); (case side2 => exact (Kd.N_reads' HO391.out).2.1); rintro e w27 ⟨rfl, hb⟩; replace HO_4 := zA (Kd.N_below (zN HO_4.out) hb); replace HO_5 := zr HO_5 hb; replace HO388 := zr HO388 hb; replace HO391 := zA (Kd.N_below (zN HO391.out) hb); replace HB := zA (below_step (zB) hb); (try clear hb)) | ((with_reducible refine gate_builtin (b := .append) (xs := #[.tmp 36, .tmp 38]) rfl ?_); at_builtin; refine Kd.N_append (Kd.slice 75 k75) (w0 := w) w.heap.size rfl (.tmp 36) (.tmp 38) 63 108 (.slice none 0 0) 24 rfl Tryz.underlying63 info108 rfl (by decide) (by omega) u4 x4_1 t389 [.slice Ao26 t389.length co26] (fun k_ => (w.heap.size ≤ k_) ∧ some k_ ≠ (.slice (some ad384) t378.length co7 : Value).ownBlock ∧ some k_ ≠ (.slice Ao24 t386.length co24 : Value).ownBlock) (fun k_ => ((fun k_ => (w.heap.size ≤ k_) ∧ some k_ ≠ (.slice (some ad384) t378.length co7 : Value).ownBlock ∧ some k_ ≠ (.slice Ao24 t386.length co24 : Value).ownBlock)) k_ ∧ some k_ ≠ (u4 : Value).ownBlock) rfl rfl ?aP (fun _ hk => hk) ?aF ?aO ?aB ?aS ?aL ?_; (case aP => exact (Kd.FK_slice_mk (Kd.N_reads' (Kd.N_mono (ok' := (fun k_ => ((fun k_ => (w.heap.size ≤ k_) ∧ some k_ ≠ (.slice (some ad384) t378.length co7 : Value).ownBlock ∧ some k_ ≠ (.slice Ao24 t386.length co24 : Value).ownBlock)) k_ ∧ some k_ ≠ (u4 : Value).ownBlock)) (HO391.out) (fun k_ hk => ⟨⟨hk.1, ⟨hk.2.2.1, hk.2.2.2⟩⟩, hk.2.1⟩))).2.1 (Kd.N_F (Kd.N_mono (ok' := (fun k_ => ((fun k_ => (w.heap.size ≤ k_) ∧ some k_ ≠ (.slice (some ad384) t378.length co7 : Value).ownBlock ∧ some k_ ≠ (.slice Ao24 t386.length co24 : Value).ownBlock)) k_ ∧ some k_ ≠ (u4 : Value).ownBlock)) (HO391.out) (fun k_ hk => ⟨⟨hk.1, ⟨hk.2.2.1, hk.2.2.2⟩⟩, hk.2.1⟩))))); (case aB => exact (zB)); (case aF => exact (fun k_ hk => ⟨(Nat.le_trans (below_size (zB)) hk), Kd.fresh' (Kd.R_lt (zR HO_5.out)) k_ hk, Kd.fresh' (Kd.R_lt (zR HO388.out)) k_ hk⟩)); (case aO => exact (zNt (Kd.N_mono HO_4.out (fun _ hk => ⟨hk.1.1.1, ⟨hk.1.1.2, hk.1.2⟩⟩)))); (case aS => exact (below_size (zB))); (case aL => have := LMc22.out; omega); intro v395 w28 ho hb hg hat; rw [← Ny394.out] at ho; replace HO_5 := zA (Kd.R_over' (zR HO_5.out) (Kd.N_typed (zN HO_4.out)) (by decide) hg); replace HO388 := zA (Kd.R_over' (zR HO388.out) (Kd.N_typed (zN HO_4.out)) (by decide) hg); replace HB := zA (hb); have HO396 := zA (ho); clear HO_4 HO391; clear ho hb hg hat))
       go_roundg kj5
       case measure => have := HK1.out; have := HJ5.out; omega
       case rel => exact ⟨(y394), (wrap64 (x6_1 + 1)), zS, H', ⟨by have := HK1.out; have := HJ5.out; omega⟩, ⟨zNt (Kd.N_mono HO396.out (fun _ hk => ⟨hk.1, hk.2.1⟩))⟩, ⟨zR (Kd.R_mono HO_5.out (fun _ hk => hk.1))⟩, ⟨zB⟩⟩
      ·obtain ⟨y397, hy397⟩ : ∃ y_ : List (List (S75)), y_ = (([] : List (List (S75)))) := ⟨_, rfl⟩
       replace H : (some (y397, false)) = some (r1, r2) := zY hy397 H
       have Ny397 := Aside0.mk hy397
       clear hy397
       simp only [Option.some.injEq, Prod.mk.injEq] at H
       obtain ⟨rfl, rfl⟩ := H
       have p384 : 0 ≤ (x6_1 : Int) := zD
       have q384 : x6_1 < (t378.length : Int) := zD
       obtain ⟨ad384, e384, hx384_0⟩ := Kd.at_string (Kd.R_reads' HO_5.out).2.2 x6_1 p384 q384
       cases e384
       replace p384 := eq_true p384
       replace q384 := eq_true q384
       go_wp2_with (first | ((with_reducible refine zq 79 ?_); refine zg (some 23) Tryz.func79 #[.string (rdOf ByteArray.empty t378 x6_1)] ?_; (with_reducible refine (spec_l4Trim.calls kj5 (rdOf ByteArray.empty t378 x6_1) t385 _ A16.out).mono ?_); rintro e w' ⟨rfl, ⟨nd, rfl⟩⟩; refine ⟨_, rfl, ?_⟩) | ((with_reducible refine zq 78 ?_); refine zg (some 24) Tryz.func78 #[.string t385, .int .u8 32] ?_; (with_reducible refine (spec_Split.calls kj5 t385 32 t386 _ A17.out).mono ?_); rintro e w29 ⟨v387, rfl, ho0, hb⟩; refine ⟨_, rfl, ?_⟩; replace HO_4 := zA (Kd.N_elder' (zN HO_4.out) (Kd.R_base ho0) hb); have HO388 := zA (Kd.R_lower (Kd.R_new' (Kd.R_newM (M := fun k_ => (w.heap.size ≤ k_)) ho0 (below_size (zB)) (fun k_ h_ => h_)) (Kd.R_lt (zR HO_5.out))) (below_size (zB))); replace HO_5 := zA (Kd.R_elder' (zR HO_5.out) (Kd.R_base ho0) hb); replace HB := zA (below_step (zB) hb); (try clear hb ho0); obtain ⟨Ao30, co30, eo30⟩ := Kd.R_slice HO388.out; subst eo30) | ((with_reducible refine zq 77 ?_); refine zg (some 25) Tryz.func77 #[.slice Ao30 t386.length co30] ?_; (with_reducible refine (spec_l4List.calls kj5 _ _ t386 t389 true _ ?side1 ?side2 A18.out).mono ?_); (case side1 => repeat (first | exact (Kd.R_reads' HO388.out).2.2 | (with_reducible refine Kd.C_alloc ?_ _) | (with_reducible refine Kd.C_drewN ?_ _) | (with_reducible refine Kd.C_drew ?_))); (case side2 => exact (Kd.R_reads' HO388.out).2.1); rintro e w31 ⟨v390, rfl, ho0, hb⟩; refine ⟨_, rfl, ?_⟩; have HO391 := zA (Kd.N_lower (Kd.N_mono (ok' := fun k_ => (w.heap.size ≤ k_) ∧ some k_ ≠ (u4 : Value).ownBlock ∧ some k_ ≠ (.slice (some ad384) t378.length co7 : Value).ownBlock ∧ some k_ ≠ (.slice Ao30 t386.length co30 : Value).ownBlock) ho0 (fun k_ hk_ => ⟨(Nat.le_trans (below_size (zB)) hk_), (Kd.fresh' (Kd.N_lt (zN HO_4.out)) k_ hk_), (Kd.fresh' (Kd.R_lt (zR HO_5.out)) k_ hk_), (Kd.fresh' (Kd.R_lt (zR HO388.out)) k_ hk_)⟩)) (below_size (zB))); replace HO_4 := zA (Kd.N_elder' (zN HO_4.out) (Kd.N_base ho0) hb); replace HO_5 := zr HO_5 hb; replace HO388 := zr HO388 hb; replace HB := zA (below_step (zB) hb); (try clear hb ho0); obtain ⟨Ao32, co32, eo32⟩ := Kd.N_slice HO391.out; subst eo32) | (go_at_call 80; (with_reducible refine (spec_l4Good.calls kj5 _ _ t389 false _ ?side1 ?side2 A20.out).mono ?_); (case side1 => repeat (first | exact (Kd.N_reads' HO391.out).2.2 | (with_reducible refine Kd.C_alloc ?_ _) | (with_reducible refine Kd.C_drewN ?_ _) | (with_reducible refine Kd.C_drew ?_))); (case side2 => exact (Kd.N_reads' HO391.out).2.1); rintro e w33 ⟨rfl, hb⟩; replace HO_4 := zA (Kd.N_below (zN HO_4.out) hb); replace HO_5 := zr HO_5 hb; replace HO388 := zr HO388 hb; replace HO391 := zA (Kd.N_below (zN HO391.out) hb); replace HB := zA (below_step (zB) hb); (try clear hb)) | ((with_reducible refine gate_dst (N := 35) rfl ?_); refine Kd.N_lit (Kd.slice 75 k75) _ 108 ?hg (N' := 35) ?hd (xs := ([] : List (List (S75)))) (inner := []) (ok := (fun k_ => (w.heap.size ≤ k_) ∧ some k_ ≠ (u4 : Value).ownBlock ∧ some k_ ≠ (.slice (some ad384) t378.length co7 : Value).ownBlock ∧ some k_ ≠ (.slice Ao30 t386.length co30 : Value).ownBlock ∧ some k_ ≠ (.slice Ao32 t389.length co32 : Value).ownBlock)) ?hr ?hp (fun _ hk => hk) ((show ∀ k_, w33.heap.size ≤ k_ → (fun k_ => (w.heap.size ≤ k_) ∧ some k_ ≠ (u4 : Value).ownBlock ∧ some k_ ≠ (.slice (some ad384) t378.length co7 : Value).ownBlock ∧ some k_ ≠ (.slice Ao30 t386.length co30 : Value).ownBlock ∧ some k_ ≠ (.slice Ao32 t389.length co32 : Value).ownBlock) k_ from fun k_ hk => ⟨(Nat.le_trans (below_size (zB)) hk), Kd.fresh' (Kd.N_lt (zN HO_4.out)) k_ hk, Kd.fresh' (Kd.R_lt (zR HO_5.out)) k_ hk, Kd.fresh' (Kd.R_lt (zR HO388.out)) k_ hk, Kd.fresh' (Kd.N_lt (zN HO391.out)) k_ hk⟩) _ (Nat.le_refl _)) (Below.refl _ _) (Nat.le_refl _) (by simp) ?_; (case hd => rfl); (case hg => rfl); (case hr => first | (go_simp; done) | (go_simp; rfl)); (case hp => exact (Reps.none _ _)); intro v398 w34 ho35 hb hg_ hnew_; clear hg_ hnew_; (first | rw [← Ny397.out] at ho35 | (simp only [Int.reduceToNat] at ho35; rw [← Ny397.out] at ho35)); replace HO_4 := zA (Kd.N_elder' (zN HO_4.out) (Kd.N_base ho35) hb); replace HO_5 := zr HO_5 hb; replace HO388 := zr HO388 hb; replace HO391 := zA (Kd.N_elder' (zN HO391.out) (Kd.N_base ho35) hb); have HO399 := zA (Kd.N_lower ho35 (below_size (zB))); replace HB := zA (below_step (zB) hb); clear hb ho35))
       go_ret2
       exact ⟨_, zE, zNt (Kd.N_mono HO399.out (fun _ hk => hk.1)), zB⟩
     ·obtain ⟨y400, hy400⟩ : ∃ y_ : List (List (S75)), y_ = (([] : List (List (S75)))) := ⟨_, rfl⟩
      replace H : (some (y400, false)) = some (r1, r2) := zY hy400 H
      have Ny400 := Aside0.mk hy400
      clear hy400
      simp only [Option.some.injEq, Prod.mk.injEq] at H
      obtain ⟨rfl, rfl⟩ := H
      have p384 : 0 ≤ (x6_1 : Int) := zD
      have q384 : x6_1 < (t378.length : Int) := zD
      obtain ⟨ad384, e384, hx384_0⟩ := Kd.at_string (Kd.R_reads' HO_5.out).2.2 x6_1 p384 q384
      cases e384
      replace p384 := eq_true p384
      replace q384 := eq_true q384
      go_wp2_with (first | ((with_reducible refine zq 79 ?_); refine zg (some 23) Tryz.func79 #[.string (rdOf ByteArray.empty t378 x6_1)] ?_; (with_reducible refine (spec_l4Trim.calls kj5 (rdOf ByteArray.empty t378 x6_1) t385 _ A16.out).mono ?_); rintro e w' ⟨rfl, ⟨nd, rfl⟩⟩; refine ⟨_, rfl, ?_⟩) | ((with_reducible refine zq 78 ?_); refine zg (some 24) Tryz.func78 #[.string t385, .int .u8 32] ?_; (with_reducible refine (spec_Split.calls kj5 t385 32 t386 _ A17.out).mono ?_); rintro e w36 ⟨v387, rfl, ho0, hb⟩; refine ⟨_, rfl, ?_⟩; replace HO_4 := zA (Kd.N_elder' (zN HO_4.out) (Kd.R_base ho0) hb); have HO388 := zA (Kd.R_lower (Kd.R_new' (Kd.R_newM (M := fun k_ => (w.heap.size ≤ k_)) ho0 (below_size (zB)) (fun k_ h_ => h_)) (Kd.R_lt (zR HO_5.out))) (below_size (zB))); replace HO_5 := zA (Kd.R_elder' (zR HO_5.out) (Kd.R_base ho0) hb); replace HB := zA (below_step (zB) hb); (try clear hb ho0); obtain ⟨Ao37, co37, eo37⟩ := Kd.R_slice HO388.out; subst eo37) | ((with_reducible refine zq 77 ?_); refine zg (some 25) Tryz.func77 #[.slice Ao37 t386.length co37] ?_; (with_reducible refine (spec_l4List.calls kj5 _ _ t386 t389 false _ ?side1 ?side2 A18.out).mono ?_); (case side1 => repeat (first | exact (Kd.R_reads' HO388.out).2.2 | (with_reducible refine Kd.C_alloc ?_ _) | (with_reducible refine Kd.C_drewN ?_ _) | (with_reducible refine Kd.C_drew ?_))); (case side2 => exact (Kd.R_reads' HO388.out).2.1); rintro e w38 ⟨v390, rfl, ho0, hb⟩; refine ⟨_, rfl, ?_⟩; have HO391 := zA (Kd.N_lower (Kd.N_mono (ok' := fun k_ => (w.heap.size ≤ k_) ∧ some k_ ≠ (u4 : Value).ownBlock ∧ some k_ ≠ (.slice (some ad384) t378.length co7 : Value).ownBlock ∧ some k_ ≠ (.slice Ao37 t386.length co37 : Value).ownBlock) ho0 (fun k_ hk_ => ⟨(Nat.le_trans (below_size (zB)) hk_), (Kd.fresh' (Kd.N_lt (zN HO_4.out)) k_ hk_), (Kd.fresh' (Kd.R_lt (zR HO_5.out)) k_ hk_), (Kd.fresh' (Kd.R_lt (zR HO388.out)) k_ hk_)⟩)) (below_size (zB))); replace HO_4 := zA (Kd.N_elder' (zN HO_4.out) (Kd.N_base ho0) hb); replace HO_5 := zr HO_5 hb; replace HO388 := zr HO388 hb; replace HB := zA (below_step (zB) hb); (try clear hb ho0)) | ((with_reducible refine gate_dst (N := 35) rfl ?_); refine Kd.N_lit (Kd.slice 75 k75) _ 108 ?hg (N' := 35) ?hd (xs := ([] : List (List (S75)))) (inner := []) (ok := (fun k_ => (w.heap.size ≤ k_) ∧ some k_ ≠ (u4 : Value).ownBlock ∧ some k_ ≠ (.slice (some ad384) t378.length co7 : Value).ownBlock ∧ some k_ ≠ (.slice Ao37 t386.length co37 : Value).ownBlock ∧ some k_ ≠ (v390 : Value).ownBlock)) ?hr ?hp (fun _ hk => hk) ((show ∀ k_, w38.heap.size ≤ k_ → (fun k_ => (w.heap.size ≤ k_) ∧ some k_ ≠ (u4 : Value).ownBlock ∧ some k_ ≠ (.slice (some ad384) t378.length co7 : Value).ownBlock ∧ some k_ ≠ (.slice Ao37 t386.length co37 : Value).ownBlock ∧ some k_ ≠ (v390 : Value).ownBlock) k_ from fun k_ hk => ⟨(Nat.le_trans (below_size (zB)) hk), Kd.fresh' (Kd.N_lt (zN HO_4.out)) k_ hk, Kd.fresh' (Kd.R_lt (zR HO_5.out)) k_ hk, Kd.fresh' (Kd.R_lt (zR HO388.out)) k_ hk, Kd.fresh' (Kd.N_lt (zN HO391.out)) k_ hk⟩) _ (Nat.le_refl _)) (Below.refl _ _) (Nat.le_refl _) (by simp) ?_; (case hd => rfl); (case hg => rfl); (case hr => first | (go_simp; done) | (go_simp; rfl)); (case hp => exact (Reps.none _ _)); intro v401 w39 ho40 hb hg_ hnew_; clear hg_ hnew_; (first | rw [← Ny400.out] at ho40 | (simp only [Int.reduceToNat] at ho40; rw [← Ny400.out] at ho40)); replace HO_4 := zA (Kd.N_elder' (zN HO_4.out) (Kd.N_base ho40) hb); replace HO_5 := zr HO_5 hb; replace HO388 := zr HO388 hb; replace HO391 := zA (Kd.N_elder' (zN HO391.out) (Kd.N_base ho40) hb); have HO402 := zA (Kd.N_lower ho40 (below_size (zB))); replace HB := zA (below_step (zB) hb); clear hb ho40))
      go_ret2
      exact ⟨_, zE, zNt (Kd.N_mono HO402.out (fun _ hk => hk.1)), zB⟩
/-! ### spec_l3SameCore: function 97 -/
def spec_l3SameCore.f (a0_0 a0_1 a0_2 : Int) (l0_3 : List ByteArray) (a1_0 a1_1 a1_2 : Int) (l1_3 : List ByteArray) : Option (Bool) := if a0_0 = a1_0 then (if a0_1 = a1_1 then (some (a0_2 == a1_2)) else (some false)) else (some false)
theorem spec_l3SameCore.calls (a0_0 a0_1 a0_2 : Int) (A0_3 : Option Addr) (c0_3 : Nat) (l0_3 : List ByteArray) (a1_0 a1_1 a1_2 : Int) (A1_3 : Option Addr) (c1_3 : Nat) (l1_3 : List ByteArray) (r : Bool) (w : World) (hr0_3 : Kd.C Kd.string w A0_3 l0_3.length l0_3) (hc0_3 : l0_3.length ≤ c0_3) (hr1_3 : Kd.C Kd.string w A1_3 l1_3.length l1_3) (hc1_3 : l1_3.length ≤ c1_3) (h : spec_l3SameCore.f a0_0 a0_1 a0_2 l0_3 a1_0 a1_1 a1_2 l1_3 = some r) :
  Calls Tryz.prog 97 #[.agg #[.int .i64 a0_0, .int .i64 a0_1, .int .i64 a0_2, .slice A0_3 l0_3.length c0_3], .agg #[.int .i64 a1_0, .int .i64 a1_1, .int .i64 a1_2, .slice A1_3 l1_3.length c1_3]] w fun e w' => e = .returned (.bool r) ∧ Below w.heap.size w w' := by
 have hu32 := Tryz.underlying32
 have HR0_3 := Aside0.mk hr0_3
 have HC0_3 := Aside0.mk hc0_3
 clear hr0_3 hc0_3
 have HR1_3 := Aside0.mk hr1_3
 have HC1_3 := Aside0.mk hc1_3
 clear hr1_3 hc1_3
 have HB := zA (Below.refl w.heap.size w)
 unfold spec_l3SameCore.f at h
 have H := h
 clear h
 replace H := zI1 H
 rcases H with ⟨c3, H⟩ | ⟨c3, H⟩
 ·have c3b0 := beq_iff_eq.mpr c3
  have c3b1 := bne_eq_false_iff_eq.mpr c3
  clear c3
  replace H := zI1 H
  rcases H with ⟨c4, H⟩ | ⟨c4, H⟩
  ·have c4b0 := beq_iff_eq.mpr c4
   have c4b1 := bne_eq_false_iff_eq.mpr c4
   clear c4
   obtain rfl := Option.some.inj H
   go_enter Tryz.func97, Tryz.ntmps97
   go_wp2_with (first | ((with_reducible refine zd 2 ?_); refine ze 2 32 #[.int .i64 a0_0, .int .i64 a0_1, .int .i64 a0_2, .slice A0_3 l0_3.length c0_3] ?_; intro gb403 hg w5 hbox hb; have BK403 := zA (hbox); have GW403 := zi HB hg; have GE403 := zi HB hg; replace HB := zA (below_step (zB) hb); clear hb hbox hg) | ((with_reducible refine zd 3 ?_); refine ze 3 32 #[.int .i64 a1_0, .int .i64 a1_1, .int .i64 a1_2, .slice A1_3 l1_3.length c1_3] ?_; intro gb404 hg w6 hbox hb; have BK404 := zA (hbox); have GW404 := zi HB hg; have GE404 := zi HB hg; replace HB := zh HB hb; have NB403_404 := zA (zL hg (zK BK403.out)); have NB404_403 := zA (zJ hg (zK BK403.out)); replace BK403 := zb BK403 hb; clear hb hbox hg; have hnb7 := NB403_404.out; have hnc7 := NB404_403.out; obtain ⟨hcz8_0, hcz8_1, hcz8_2, hcz8_3, hfz8_0, hfz8_1, hfz8_2, hfz8_3⟩ := ze4 BK403.out; obtain ⟨hcz9_0, hcz9_1, hcz9_2, hcz9_3, hfz9_0, hfz9_1, hfz9_2, hfz9_3⟩ := ze4 BK404.out))
   go_ret
   exact ⟨zE, zW HB.out⟩
  ·have c4b0 := beq_eq_false_iff_ne.mpr c4
   have c4b1 := bne_iff_ne.mpr c4
   obtain rfl := Option.some.inj H
   go_enter Tryz.func97, Tryz.ntmps97
   go_wp2_with (first | ((with_reducible refine zd 2 ?_); refine ze 2 32 #[.int .i64 a0_0, .int .i64 a0_1, .int .i64 a0_2, .slice A0_3 l0_3.length c0_3] ?_; intro gb403 hg w10 hbox hb; have BK403 := zA (hbox); have GW403 := zi HB hg; have GE403 := zi HB hg; replace HB := zA (below_step (zB) hb); clear hb hbox hg) | ((with_reducible refine zd 3 ?_); refine ze 3 32 #[.int .i64 a1_0, .int .i64 a1_1, .int .i64 a1_2, .slice A1_3 l1_3.length c1_3] ?_; intro gb404 hg w11 hbox hb; have BK404 := zA (hbox); have GW404 := zi HB hg; have GE404 := zi HB hg; replace HB := zh HB hb; have NB403_404 := zA (zL hg (zK BK403.out)); have NB404_403 := zA (zJ hg (zK BK403.out)); replace BK403 := zb BK403 hb; clear hb hbox hg; have hnb12 := NB403_404.out; have hnc12 := NB404_403.out; obtain ⟨hcz13_0, hcz13_1, hcz13_2, hcz13_3, hfz13_0, hfz13_1, hfz13_2, hfz13_3⟩ := ze4 BK403.out; obtain ⟨hcz14_0, hcz14_1, hcz14_2, hcz14_3, hfz14_0, hfz14_1, hfz14_2, hfz14_3⟩ := ze4 BK404.out))
   go_ret
   exact ⟨zE, zW HB.out⟩
 ·have c3b0 := beq_eq_false_iff_ne.mpr c3
  have c3b1 := bne_iff_ne.mpr c3
  obtain rfl := Option.some.inj H
  go_enter Tryz.func97, Tryz.ntmps97
  go_wp2_with (first | ((with_reducible refine zd 2 ?_); refine ze 2 32 #[.int .i64 a0_0, .int .i64 a0_1, .int .i64 a0_2, .slice A0_3 l0_3.length c0_3] ?_; intro gb403 hg w15 hbox hb; have BK403 := zA (hbox); have GW403 := zi HB hg; have GE403 := zi HB hg; replace HB := zA (below_step (zB) hb); clear hb hbox hg) | ((with_reducible refine zd 3 ?_); refine ze 3 32 #[.int .i64 a1_0, .int .i64 a1_1, .int .i64 a1_2, .slice A1_3 l1_3.length c1_3] ?_; intro gb404 hg w16 hbox hb; have BK404 := zA (hbox); have GW404 := zi HB hg; have GE404 := zi HB hg; replace HB := zh HB hb; have NB403_404 := zA (zL hg (zK BK403.out)); have NB404_403 := zA (zJ hg (zK BK403.out)); replace BK403 := zb BK403 hb; clear hb hbox hg; have hnb17 := NB403_404.out; have hnc17 := NB404_403.out; obtain ⟨hcz18_0, hcz18_1, hcz18_2, hcz18_3, hfz18_0, hfz18_1, hfz18_2, hfz18_3⟩ := ze4 BK403.out; obtain ⟨hcz19_0, hcz19_1, hcz19_2, hcz19_3, hfz19_0, hfz19_1, hfz19_2, hfz19_3⟩ := ze4 BK404.out))
  go_ret
  exact ⟨zE, zW HB.out⟩
/-! ### spec_l2SameTexts: function 141 -/
mutual
def spec_l2SameTexts.j0 : Nat → List ByteArray → List ByteArray → Option (Bool)
 | 0, _, _ => none
 | k + 1, x0, x1 => spec_l2SameTexts.l0 k x0 x1 0
def spec_l2SameTexts.l0 : Nat → List ByteArray → List ByteArray → Int → Option (Bool)
 | 0, _, _, _ => none
 | k + 1, x0, x1, x5 => if x5 < (x0.length : Int) then (if 0 ≤ x5 then (if x5 < (x1.length : Int) then (if (rdOf ByteArray.empty x0 x5).toList = (rdOf ByteArray.empty x1 x5).toList then (spec_l2SameTexts.l0 k x0 x1 (wrap64 (x5 + 1))) else (some false)) else (none)) else (none)) else (some true)
end
def spec_l2SameTexts.f (k : Nat) (l0 l1 : List ByteArray) : Option (Bool) := if (l0.length : Int) = (l1.length : Int) then (spec_l2SameTexts.j0 k l0 l1) else (some false)
theorem spec_l2SameTexts.calls (k : Nat) (A0 : Option Addr) (c0 : Nat) (l0 : List ByteArray) (A1 : Option Addr) (c1 : Nat) (l1 : List ByteArray) (r : Bool) (w : World) (hr0 : Kd.C Kd.string w A0 l0.length l0) (hc0 : l0.length ≤ c0) (hr1 : Kd.C Kd.string w A1 l1.length l1) (hc1 : l1.length ≤ c1) (h : spec_l2SameTexts.f k l0 l1 = some r) :
  Calls Tryz.prog 141 #[.slice A0 l0.length c0, .slice A1 l1.length c1] w fun e w' => e = .returned (.bool r) ∧ Drawn0 w w' := by
 have HR0 := Aside0.mk hr0
 have HC0 := Aside0.mk hc0
 clear hr0 hc0
 have HR1 := Aside0.mk hr1
 have HC1 := Aside0.mk hc1
 clear hr1 hc1
 unfold spec_l2SameTexts.f at h
 have H := h
 clear h
 have HC3 := Aside0.mk H
 clear H
 go_enter Tryz.func141, Tryz.ntmps141
 go_upto_if 10 with (fail)
 repeat (go_quiet (fail); go_upto_if 10 with (fail))
 go_cut [] (fun wc => ∃ (kq : Nat), Aside0 (spec_l2SameTexts.j0 kq l0 l1 = some r) ∧ Aside0 (kq ≤ k) ∧ Drawn0 w wc)
 case first =>
  have H := HC3.out
  clear HC3
  replace H := zI1 H
  rcases H with ⟨c4, H⟩ | ⟨c4, H⟩
  ·have c4b0 := beq_iff_eq.mpr c4
   have c4b1 := bne_eq_false_iff_eq.mpr c4
   have c4b2 : (l0.length == l1.length) = true := by first | simpa using c4 | (simp at c4 ⊢; omega)
   clear c4
   (first | rw [c4b0] | (simp only [i64_w, i32_w]; rw [c4b0]) | skip)
   have H' := Aside0.mk H
   clear H
   go_wp2
   repeat (go_quiet (fail); try go_wp2)
   go_meet
   case rel => exact ⟨_, (by first | exact H' | (subst_vars; exact H')), ⟨by first | omega | exact Nat.le_refl _⟩, by repeat (first | exact Drawn0.refl _ | apply Drawn0.step)⟩
  ·have c4b0 := beq_eq_false_iff_ne.mpr c4
   have c4b1 := bne_iff_ne.mpr c4
   have c4b2 : (l0.length == l1.length) = false := by first | simpa using c4 | (simp at c4 ⊢; omega)
   (first | rw [c4b0] | (simp only [i64_w, i32_w]; rw [c4b0]) | skip)
   obtain rfl := Option.some.inj H
   go_wp2
   repeat (go_quiet (fail); try go_wp2)
   go_ret
   exact ⟨by first | rfl | (simp; done) | (simp [*]; done) | (simp; rw [Bool.eq_iff_iff]; simp; done), by repeat (first | exact Drawn0.refl _ | apply Drawn0.step)⟩
 case rest =>
  clear HC3
  try clear c1
  try clear p2
  try clear c4
  try clear c4b0
  try clear c4b1
  try clear c4b2
  obtain ⟨kq, HA, HJ2, ⟨mc2, rfl⟩⟩ := hcut
  cases kq with
  | zero => exact absurd HA.out (by simp [spec_l2SameTexts.j0])
  | succ kj2 =>
   have H := HA.out
   clear HA
   simp only [spec_l2SameTexts.j0] at H
   have H' := Aside0.mk H
   clear H
   go_wp2
   repeat (go_quiet (fail); try go_wp2)
   go_loopg [5] kj2 (fun kq v5 w' => ∃ (x5_2 : Int), v5 = .int .i64 x5_2 ∧ Aside0 (spec_l2SameTexts.l0 kq l0 l1 x5_2 = some r) ∧ Aside0 (kq ≤ kj2) ∧ Drawn0 w w')
   case atStart => exact ⟨(0), zS, H', ⟨Nat.le_refl _⟩, by repeat (first | exact Drawn0.refl _ | apply Drawn0.step)⟩
   case round =>
    clear H'
    try clear c1
    try clear c2
    try clear p2
    try clear c4
    try clear c4b0
    try clear c4b1
    try clear c4b2
    try clear p2
    obtain ⟨x5_2, rfl, HA, HK2, ⟨m2, rfl⟩⟩ := hrel
    cases gk with
    | zero => exact absurd HA.out (by simp [spec_l2SameTexts.l0])
    | succ k2 =>
     have H := HA.out
     clear HA
     simp only [spec_l2SameTexts.l0] at H
     replace H := zI0 H
     rcases H with ⟨c5b0, H⟩ | ⟨c5b0, H⟩
     ·replace H := zD0 H
      obtain ⟨c6b0, H⟩ := H
      replace H := zD0 H
      obtain ⟨c7b0, H⟩ := H
      replace H := zI1 H
      rcases H with ⟨c8, H⟩ | ⟨c8, H⟩
      ·have c8b0 := beq_iff_eq.mpr c8
       have c8b1 := bne_eq_false_iff_eq.mpr c8
       clear c8
       have H' := Aside0.mk H
       clear H
       have p405 : 0 ≤ (x5_2 : Int) := zD
       have q405 : x5_2 < (l0.length : Int) := zD
       obtain ⟨ad405, e405, hx405_0⟩ := Kd.at_string HR0.out x5_2 p405 q405
       cases e405
       replace p405 := eq_true p405
       replace q405 := eq_true q405
       have p406 : 0 ≤ (x5_2 : Int) := zD
       have q406 : x5_2 < (l1.length : Int) := zD
       obtain ⟨ad406, e406, hx406_0⟩ := Kd.at_string HR1.out x5_2 p406 q406
       cases e406
       replace p406 := eq_true p406
       replace q406 := eq_true q406
       go_wp2
       repeat (go_quiet (fail); try go_wp2)
       go_roundg k2
       case measure => have := HJ2.out; have := HK2.out; omega
       case rel => exact ⟨(wrap64 (x5_2 + 1)), zS, H', ⟨by have := HJ2.out; have := HK2.out; omega⟩, by repeat (first | exact Drawn0.refl _ | apply Drawn0.step)⟩
      ·have c8b0 := beq_eq_false_iff_ne.mpr c8
       have c8b1 := bne_iff_ne.mpr c8
       obtain rfl := Option.some.inj H
       have p405 : 0 ≤ (x5_2 : Int) := zD
       have q405 : x5_2 < (l0.length : Int) := zD
       obtain ⟨ad405, e405, hx405_0⟩ := Kd.at_string HR0.out x5_2 p405 q405
       cases e405
       replace p405 := eq_true p405
       replace q405 := eq_true q405
       have p406 : 0 ≤ (x5_2 : Int) := zD
       have q406 : x5_2 < (l1.length : Int) := zD
       obtain ⟨ad406, e406, hx406_0⟩ := Kd.at_string HR1.out x5_2 p406 q406
       cases e406
       replace p406 := eq_true p406
       replace q406 := eq_true q406
       go_wp2
       repeat (go_quiet (fail); try go_wp2)
       go_ret
       exact ⟨by first | rfl | (simp; done) | (simp [*]; done) | (simp; rw [Bool.eq_iff_iff]; simp; done), by repeat (first | exact Drawn0.refl _ | apply Drawn0.step)⟩
     ·obtain rfl := Option.some.inj H
      go_wp2
      repeat (go_quiet (fail); try go_wp2)
      go_ret
      exact ⟨by first | rfl | (simp; done) | (simp [*]; done) | (simp; rw [Bool.eq_iff_iff]; simp; done), by repeat (first | exact Drawn0.refl _ | apply Drawn0.step)⟩
/-! ### spec_SameVer: function 99 -/
def spec_SameVer.f (k : Nat) (a0_0 a0_1 a0_2 : Int) (l0_3 : List ByteArray) (a1_0 a1_1 a1_2 : Int) (l1_3 : List ByteArray) : Option (Bool) := (spec_l3SameCore.f a0_0 a0_1 a0_2 l0_3 a1_0 a1_1 a1_2 l1_3).bind fun t409 => (if t409 = true then ((spec_l2SameTexts.f k l0_3 l1_3).bind fun t410 => (some t410)) else (some false))
theorem spec_SameVer.calls (k : Nat) (a0_0 a0_1 a0_2 : Int) (A0_3 : Option Addr) (c0_3 : Nat) (l0_3 : List ByteArray) (a1_0 a1_1 a1_2 : Int) (A1_3 : Option Addr) (c1_3 : Nat) (l1_3 : List ByteArray) (r : Bool) (w : World) (hr0_3 : Kd.C Kd.string w A0_3 l0_3.length l0_3) (hc0_3 : l0_3.length ≤ c0_3) (hr1_3 : Kd.C Kd.string w A1_3 l1_3.length l1_3) (hc1_3 : l1_3.length ≤ c1_3) (h : spec_SameVer.f k a0_0 a0_1 a0_2 l0_3 a1_0 a1_1 a1_2 l1_3 = some r) :
  Calls Tryz.prog 99 #[.agg #[.int .i64 a0_0, .int .i64 a0_1, .int .i64 a0_2, .slice A0_3 l0_3.length c0_3], .agg #[.int .i64 a1_0, .int .i64 a1_1, .int .i64 a1_2, .slice A1_3 l1_3.length c1_3]] w fun e w' => e = .returned (.bool r) ∧ Below w.heap.size w w' := by
 have hu32 := Tryz.underlying32
 have HR0_3 := Aside0.mk hr0_3
 have HC0_3 := Aside0.mk hc0_3
 clear hr0_3 hc0_3
 have HR1_3 := Aside0.mk hr1_3
 have HC1_3 := Aside0.mk hc1_3
 clear hr1_3 hc1_3
 have HB := zA (Below.refl w.heap.size w)
 unfold spec_SameVer.f at h
 have H := h
 clear h
 replace H := zj H
 obtain ⟨t409, A3, H⟩ := H
 try dsimp only at H
 replace H := zB0 H
 rcases H with ⟨rfl, H⟩ | ⟨rfl, H⟩
 ·replace H := zj H
  obtain ⟨t410, A5, H⟩ := H
  try dsimp only at H
  obtain rfl := Option.some.inj H
  go_enter Tryz.func99, Tryz.ntmps99
  go_wp2_with (first | ((with_reducible refine zd 2 ?_); refine ze 2 32 #[.int .i64 a0_0, .int .i64 a0_1, .int .i64 a0_2, .slice A0_3 l0_3.length c0_3] ?_; intro gb407 hg w6 hbox hb; have BK407 := zA (hbox); have GW407 := zi HB hg; have GE407 := zi HB hg; replace HB := zA (below_step (zB) hb); clear hb hbox hg) | ((with_reducible refine zd 3 ?_); refine ze 3 32 #[.int .i64 a1_0, .int .i64 a1_1, .int .i64 a1_2, .slice A1_3 l1_3.length c1_3] ?_; intro gb408 hg w7 hbox hb; have BK408 := zA (hbox); have GW408 := zi HB hg; have GE408 := zi HB hg; replace HB := zh HB hb; have NB407_408 := zA (zL hg (zK BK407.out)); have NB408_407 := zA (zJ hg (zK BK407.out)); replace BK407 := zb BK407 hb; clear hb hbox hg; have hnb8 := NB407_408.out; have hnc8 := NB408_407.out; obtain ⟨hcz9_0, hcz9_1, hcz9_2, hcz9_3, hfz9_0, hfz9_1, hfz9_2, hfz9_3⟩ := ze4 BK407.out; obtain ⟨hcz10_0, hcz10_1, hcz10_2, hcz10_3, hfz10_0, hfz10_1, hfz10_2, hfz10_3⟩ := ze4 BK408.out) | ((with_reducible refine zq 97 ?_); refine zg (some 7) Tryz.func97 #[.agg #[.int .i64 a0_0, .int .i64 a0_1, .int .i64 a0_2, .slice A0_3 l0_3.length c0_3], .agg #[.int .i64 a1_0, .int .i64 a1_1, .int .i64 a1_2, .slice A1_3 l1_3.length c1_3]] ?_; (with_reducible refine (spec_l3SameCore.calls a0_0 a0_1 a0_2 _ _ l0_3 a1_0 a1_1 a1_2 _ _ l1_3 true _ ?side1 ?side2 ?side3 ?side4 A3.out).mono ?_); (case side1 => exact zC (Kd.C_below HR0_3.out HB.out)); (case side2 => exact HC0_3.out); (case side3 => exact zC (Kd.C_below HR1_3.out HB.out)); (case side4 => exact HC1_3.out); rintro e w11 ⟨rfl, hb⟩; refine ⟨_, rfl, ?_⟩; replace BK407 := zb BK407 hb; replace BK408 := zb BK408 hb; replace HB := zh HB hb; (try clear hb); obtain ⟨hcz12_0, hcz12_1, hcz12_2, hcz12_3, hfz12_0, hfz12_1, hfz12_2, hfz12_3⟩ := ze4 BK407.out; obtain ⟨hcz13_0, hcz13_1, hcz13_2, hcz13_3, hfz13_0, hfz13_1, hfz13_2, hfz13_3⟩ := ze4 BK408.out) | (go_at_call 141; (with_reducible refine (spec_l2SameTexts.calls k _ _ l0_3 _ _ l1_3 t410 _ ?side1 ?side2 ?side3 ?side4 A5.out).mono ?_); (case side1 => exact zC (Kd.C_below HR0_3.out HB.out)); (case side2 => exact HC0_3.out); (case side3 => exact zC (Kd.C_below HR1_3.out HB.out)); (case side4 => exact HC1_3.out); rintro e w' ⟨rfl, ⟨nd, rfl⟩⟩))
  go_ret
  exact ⟨zE, zW HB.out⟩
 ·obtain rfl := Option.some.inj H
  go_enter Tryz.func99, Tryz.ntmps99
  go_wp2_with (first | ((with_reducible refine zd 2 ?_); refine ze 2 32 #[.int .i64 a0_0, .int .i64 a0_1, .int .i64 a0_2, .slice A0_3 l0_3.length c0_3] ?_; intro gb407 hg w14 hbox hb; have BK407 := zA (hbox); have GW407 := zi HB hg; have GE407 := zi HB hg; replace HB := zA (below_step (zB) hb); clear hb hbox hg) | ((with_reducible refine zd 3 ?_); refine ze 3 32 #[.int .i64 a1_0, .int .i64 a1_1, .int .i64 a1_2, .slice A1_3 l1_3.length c1_3] ?_; intro gb408 hg w15 hbox hb; have BK408 := zA (hbox); have GW408 := zi HB hg; have GE408 := zi HB hg; replace HB := zh HB hb; have NB407_408 := zA (zL hg (zK BK407.out)); have NB408_407 := zA (zJ hg (zK BK407.out)); replace BK407 := zb BK407 hb; clear hb hbox hg; have hnb16 := NB407_408.out; have hnc16 := NB408_407.out; obtain ⟨hcz17_0, hcz17_1, hcz17_2, hcz17_3, hfz17_0, hfz17_1, hfz17_2, hfz17_3⟩ := ze4 BK407.out; obtain ⟨hcz18_0, hcz18_1, hcz18_2, hcz18_3, hfz18_0, hfz18_1, hfz18_2, hfz18_3⟩ := ze4 BK408.out) | ((with_reducible refine zq 97 ?_); refine zg (some 7) Tryz.func97 #[.agg #[.int .i64 a0_0, .int .i64 a0_1, .int .i64 a0_2, .slice A0_3 l0_3.length c0_3], .agg #[.int .i64 a1_0, .int .i64 a1_1, .int .i64 a1_2, .slice A1_3 l1_3.length c1_3]] ?_; (with_reducible refine (spec_l3SameCore.calls a0_0 a0_1 a0_2 _ _ l0_3 a1_0 a1_1 a1_2 _ _ l1_3 false _ ?side1 ?side2 ?side3 ?side4 A3.out).mono ?_); (case side1 => exact zC (Kd.C_below HR0_3.out HB.out)); (case side2 => exact HC0_3.out); (case side3 => exact zC (Kd.C_below HR1_3.out HB.out)); (case side4 => exact HC1_3.out); rintro e w19 ⟨rfl, hb⟩; refine ⟨_, rfl, ?_⟩; replace BK407 := zb BK407 hb; replace BK408 := zb BK408 hb; replace HB := zh HB hb; (try clear hb)))
  go_ret
  exact ⟨zE, zW HB.out⟩
/-! ### spec_l3LessPart: function 173 -/
def spec_l3LessPart.j0 : Nat → ByteArray → ByteArray → Bool → Bool → Bool → Option (Bool)
 | 0, _, _, _, _, _ => none
 | k + 1, x0, x1, x5, x6, x14 => if x14 = true then (if (x0.size : Int) = (x1.size : Int) then (some (Op.bytesLess x0.toList x1.toList)) else (some (decide ((x0.size : Int) < (x1.size : Int))))) else (if (x5 != x6) = true then (some x5) else (some (Op.bytesLess x0.toList x1.toList)))
def spec_l3LessPart.f (k : Nat) (a0 a1 : ByteArray) : Option (Bool) := (spec_l3Digits.f k a0).bind fun t411 => ((spec_l3Digits.f k a1).bind fun t412 => (if t411 = true then (spec_l3LessPart.j0 k a0 a1 t411 t412 t412) else (spec_l3LessPart.j0 k a0 a1 t411 t412 false)))
theorem spec_l3LessPart.calls (k : Nat) (a0 a1 : ByteArray) (r : Bool) (w : World) (h : spec_l3LessPart.f k a0 a1 = some r) :
  Calls Tryz.prog 173 #[.string a0, .string a1] w fun e w' => e = .returned (.bool r) ∧ Drawn0 w w' := by
 unfold spec_l3LessPart.f at h
 have H := h
 clear h
 replace H := zj H
 obtain ⟨t411, A3, H⟩ := H
 try dsimp only at H
 replace H := zj H
 obtain ⟨t412, A4, H⟩ := H
 try dsimp only at H
 have HC5 := Aside0.mk H
 clear H
 go_enter Tryz.func173, Tryz.ntmps173
 go_upto_region 3 with (first | ((with_reducible refine zq 150 ?_); refine zg (some 8) Tryz.func150 #[.string a0] ?_; (with_reducible refine (spec_l3Digits.calls k a0 t411 _ A3.out).mono ?_); rintro e w' ⟨rfl, ⟨nd, rfl⟩⟩; refine ⟨_, rfl, ?_⟩) | ((with_reducible refine zq 150 ?_); refine zg (some 10) Tryz.func150 #[.string a1] ?_; (with_reducible refine (spec_l3Digits.calls k a1 t412 _ A4.out).mono ?_); rintro e w' ⟨rfl, ⟨nd, rfl⟩⟩; refine ⟨_, rfl, ?_⟩))
 (try simp only [Act.put, zT])
 go_cut [14] (fun v14 wc => ∃ (kq : Nat) (x14_4 : Bool), v14 = .bool x14_4 ∧ Aside0 (spec_l3LessPart.j0 kq a0 a1 t411 t412 x14_4 = some r) ∧ Aside0 (kq ≤ k) ∧ Drawn0 w wc)
 case first =>
  have H := HC5.out
  clear HC5
  replace H := zB0 H
  rcases H with ⟨rfl, H⟩ | ⟨rfl, H⟩
  ·have H' := Aside0.mk H
   clear H
   go_wp2
   go_meet
   case rel => exact ⟨_, (t412), zS, (by first | exact H' | (subst_vars; exact H')), ⟨by first | omega | exact Nat.le_refl _⟩, by repeat (first | exact Drawn0.refl _ | apply Drawn0.step)⟩
  ·have H' := Aside0.mk H
   clear H
   go_wp2
   go_meet
   case rel => exact ⟨_, (false), zS, (by first | exact H' | (subst_vars; exact H')), ⟨by first | omega | exact Nat.le_refl _⟩, by repeat (first | exact Drawn0.refl _ | apply Drawn0.step)⟩
 case rest =>
  clear HC5
  try clear c1
  try clear p2
  try clear c6
  obtain ⟨kq, x14_4, rfl, HA, HJ4, ⟨mc4, rfl⟩⟩ := hcut
  cases kq with
  | zero => exact absurd HA.out (by simp [spec_l3LessPart.j0])
  | succ kj4 =>
   have H := HA.out
   clear HA
   simp only [spec_l3LessPart.j0] at H
   replace H := zB0 H
   rcases H with ⟨rfl, H⟩ | ⟨rfl, H⟩
   ·replace H := zI1 H
    rcases H with ⟨c8, H⟩ | ⟨c8, H⟩
    ·have c8b0 := beq_iff_eq.mpr c8
     have c8b1 := bne_eq_false_iff_eq.mpr c8
     have c8b2 : (a0.size == a1.size) = true := by first | simpa using c8 | (simp at c8 ⊢; omega)
     clear c8
     obtain rfl := Option.some.inj H
     go_wp2
     go_ret
     exact ⟨by first | rfl | (simp; done) | (simp [*]; done) | (simp; rw [Bool.eq_iff_iff]; simp; done), by repeat (first | exact Drawn0.refl _ | apply Drawn0.step)⟩
    ·have c8b0 := beq_eq_false_iff_ne.mpr c8
     have c8b1 := bne_iff_ne.mpr c8
     have c8b2 : (a0.size == a1.size) = false := by first | simpa using c8 | (simp at c8 ⊢; omega)
     obtain rfl := Option.some.inj H
     go_wp2
     go_ret
     exact ⟨by first | rfl | (simp; done) | (simp [*]; done) | (simp; rw [Bool.eq_iff_iff]; simp; done), by repeat (first | exact Drawn0.refl _ | apply Drawn0.step)⟩
   ·replace H := zI1 H
    rcases H with ⟨c9, H⟩ | ⟨c9, H⟩
    ·have c9b0 : (t411 != t412) = true := c9
     (try (have c9b1 : decide (t411 = t412) = false := by simpa using c9))
     (try (have c9b2 : (t411 == t412) = false := by simpa using c9))
     (try (have c9b3 : ¬ (t411 = t412) := by simpa using c9))
     clear c9
     obtain rfl := Option.some.inj H
     go_wp2
     go_ret
     exact ⟨by first | rfl | (simp; done) | (simp [*]; done) | (simp; rw [Bool.eq_iff_iff]; simp; done), by repeat (first | exact Drawn0.refl _ | apply Drawn0.step)⟩
    ·have c9b0 : (t411 != t412) = false := by simpa using c9
     (try (have c9b1 : decide (t411 = t412) = true := by simpa using c9))
     (try (have c9b2 : (t411 == t412) = true := by simpa using c9))
     clear c9
     obtain rfl := Option.some.inj H
     go_wp2
     go_ret
     exact ⟨by first | rfl | (simp; done) | (simp [*]; done) | (simp; rw [Bool.eq_iff_iff]; simp; done), by repeat (first | exact Drawn0.refl _ | apply Drawn0.step)⟩
end Go.Proofs.YtpcdhoeoefoeoaaGreatDoor.PGA
