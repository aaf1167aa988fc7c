/- The walks of the functions that these laws reach, and what each comes to: printed by this session's program. -/
import Derived.Test.YtpcdhoeoefoeoaaGreatDoorZGCPGCx0
import Derived.Test.YtpcdhoeoefoeoaaGreatDoorZGCPGCx2
import Derived.Test.YtpcdhoeoefoeoaaGreatDoorZGCPGCx3
import Derived.Test.YtpcdhoeoefoeoaaGreatDoorZGCPGCx9
import Derived.Test.YtpcdhoeoefoeoaaGreatDoorZGCSays
import Derived.Test.YtpcdhoeoefoeoaaGreatDoorZGCRegN
namespace Go.Proofs.YtpcdhoeoefoeoaaGreatDoor.PGC
open Go.RowKit YtpcdhoeoefoeoaaGreatDoorW.PrintWords YtpcdhoeoefoeoaaGreatDoorW.PrintLast YtpcdhoeoefoeoaaGreatDoorW.PrintMore
attribute [local go_sem high] Mine.str_gtr Mine.str_leq Mine.str_geq
attribute [local go_sem] max2_int min2_int max_two min_two max_three min_three max_four min_four   -- for this text's walks alone
set_option linter.unusedVariables false
set_option maxHeartbeats 8000000
set_option maxRecDepth 100000
set_option linter.unusedSimpArgs false
/-! ### spec_ParseRange: function 31 -/
mutual
def spec_ParseRange.l0 : Nat → List (List (S75)) → List ByteArray → Int → Option ((List (List (S75))) × Bool)
 | 0, _, _, _ => none
 | k + 1, x4, x5, x6 => if x6 < (x5.length : Int) then (spec_ParseRange.j1 k x4 x5 x6) else (if (x4.length : Int) > 4 then (some ((([] : List (List (S75)))), false)) else (some (x4, true)))
def spec_ParseRange.j1 : Nat → List (List (S75)) → List ByteArray → Int → Option ((List (List (S75))) × Bool)
 | 0, _, _, _ => none
 | k + 1, x4, x5, x6 => if 0 ≤ x6 then (if x6 < (x5.length : Int) then ((spec_l4Trim.f k (rdOf ByteArray.empty x5 x6)).bind fun a1 => ((spec_Split.f k a1 32).bind fun a2 => ((spec_l4List.f k a2).bind fun a0 => (if a0.2 = true then ((spec_l4Good.f k a0.1).bind fun a3 => (if a3 = true then (if x4.length < 5864062014805 then (spec_ParseRange.l0 k (x4 ++ [a0.1]) x5 (wrap64 (x6 + 1))) else (none)) else (some ((([] : List (List (S75)))), false)))) else (some ((([] : List (List (S75)))), false)))))) else (none)) else (none)
end
def spec_ParseRange.f (k : Nat) (a0 : ByteArray) : Option ((List (List (S75))) × Bool) := (spec_l4Sides.f k a0).bind fun a1 => (spec_ParseRange.l0 k (([] : List (List (S75)))) a1 0)
theorem spec_ParseRange.calls (k : Nat) (a0 : ByteArray) (r1 : List (List (S75))) (r2 : Bool) (w : World) (h : spec_ParseRange.f k a0 = some (r1, r2)) :
  Calls Tryz.prog 31 #[.string a0] w fun e w' => ∃ e6 : Value, e = .returned (.tuple #[e6, .bool r2]) ∧ Kd.N (Kd.slice 75 k75) 108 w' w.heap.size (fun k_ => (w.heap.size ≤ k_)) e6 r1 ∧ Below w.heap.size w w' := by
 have HB := zA (Below.refl w.heap.size w)
 unfold spec_ParseRange.f at h
 have H := h
 clear h
 obtain ⟨e7, d5⟩ : ∃ y_ : List (List (S75)), y_ = (([] : List (List (S75)))) := ⟨_, rfl⟩
 replace H : ((spec_l4Sides.f k a0).bind fun a4 => (spec_ParseRange.l0 k e7 a4 0)) = some (r1, r2) := zY d5 H
 have e8 := Aside0.mk d5
 clear d5
 replace H := zj H
 obtain ⟨a4, A2, H⟩ := H
 try dsimp only at H
 have H' := Aside0.mk H
 clear H
 go_enter Tryz.func31, Tryz.ntmps31
 go_wp2_with (first | ((with_reducible refine gate_dst (N := 9) rfl ?_); refine Kd.N_lit (Kd.slice 75 k75) _ 108 ?hg (N' := 9) ?hd (xs := ([] : List (List (S75)))) (inner := []) (ok := (fun k_ => (w.heap.size ≤ k_))) ?hr ?hp (fun _ hk => hk) ((show ∀ k_, w.heap.size ≤ k_ → (fun k_ => (w.heap.size ≤ k_)) k_ from fun k_ hk => (Nat.le_trans (below_size (zB)) hk)) _ (Nat.le_refl _)) (Below.refl _ _) (Nat.le_refl _) (by simp) ?_; (case hd => rfl); (case hg => rfl); (case hr => first | (go_simp; done) | (go_simp; rfl)); (case hp => exact (Reps.none _ _)); intro i7 w3 c4 hb hg_ hnew_; clear hg_ hnew_; (first | rw [← e8.out] at c4 | (simp only [Int.reduceToNat] at c4; rw [← e8.out] at c4)); have d6 := zA (Kd.N_lower c4 (below_size (zB))); replace HB := zA (below_step (zB) hb); clear hb c4) | ((with_reducible refine zq 76 ?_); refine zg (some 11) Tryz.func76 #[.string a0] ?_; (with_reducible refine (spec_l4Sides.calls k a0 a4 _ A2.out).mono ?_); rintro e w5 ⟨e9, rfl, a5, hb⟩; refine ⟨_, rfl, ?_⟩; replace d6 := zA (Kd.N_elder' (zN d6.out) (Kd.R_base a5) hb); have g5 := zA (Kd.R_lower (Kd.R_newM (M := fun k_ => (w.heap.size ≤ k_)) a5 (below_size (zB)) (fun k_ h_ => h_)) (below_size (zB))); replace HB := zA (below_step (zB) hb); (try clear hb a5)))
 go_loopg [4, 6] k (fun kq v4 v6 w' => ∃ (b0 : List (List (S75))) (a6 : Int), v6 = .int .i64 a6 ∧ Aside0 (spec_ParseRange.l0 kq b0 a4 a6 = some (r1, r2)) ∧ Aside0 (kq ≤ k) ∧ Aside0 (Kd.N (Kd.slice 75 k75) 108 w' w.heap.size (fun k_ => (w.heap.size ≤ k_) ∧ some k_ ≠ (e9 : Value).ownBlock) v4 b0) ∧ Aside0 (Kd.R Kd.string 9 w' w.heap.size (fun k_ => (w.heap.size ≤ k_)) e9 a4) ∧ Aside0 (Below w.heap.size w w'))
 case atStart => exact ⟨(e7), (0), zS, H', ⟨Nat.le_refl _⟩, ⟨zN d6.out⟩, ⟨zR (Kd.R_mono g5.out (fun _ hk => hk.1))⟩, ⟨zB⟩⟩
 case round =>
  clear H'
  try clear p2
  try clear c3
  obtain ⟨b0, a6, rfl, HA, d7, a2, a1, HB⟩ := hrel
  cases gk with
  | zero => exact absurd HA.out (by simp [spec_ParseRange.l0])
  | succ k1 =>
   have H := HA.out
   clear HA
   simp only [spec_ParseRange.l0] at H
   have d8 := Aside0.mk H
   clear H
   obtain ⟨c6, a9, g6⟩ := Kd.R_slice a1.out
   subst g6
   go_upto_if 15 with (fail)
   go_cut [] (fun wc => ∃ (kq : Nat), Aside0 (spec_ParseRange.j1 kq b0 a4 a6 = some (r1, r2)) ∧ Aside0 (kq ≤ k1) ∧ Aside0 (Kd.N (Kd.slice 75 k75) 108 wc w.heap.size (fun k_ => (w.heap.size ≤ k_) ∧ some k_ ≠ ((.slice c6 a4.length a9) : Value).ownBlock) u4 b0) ∧ Aside0 (Kd.R Kd.string 9 wc w.heap.size (fun k_ => (w.heap.size ≤ k_)) (.slice c6 a4.length a9) a4) ∧ Aside0 (Below w.heap.size w wc))
   case first =>
    have H := d8.out
    clear d8
    replace H := zI0 H
    rcases H with ⟨b9, H⟩ | ⟨b9, H⟩
    ·(first | rw [b9] | (simp only [i64_w, i32_w]; rw [b9]) | skip)
     have H' := Aside0.mk H
     clear H
     go_wp2
     go_meet
     case rel => exact ⟨_, (by first | exact H' | (subst_vars; exact H')), ⟨by have := d7.out; first | omega | exact Nat.le_refl _⟩, ⟨zN a2.out⟩, ⟨zR a1.out⟩, ⟨zB⟩⟩
    ·(first | rw [b9] | (simp only [i64_w, i32_w]; rw [b9]) | skip)
     replace H := zI1 H
     rcases H with ⟨c9, H⟩ | ⟨c9, H⟩
     ·have f0 : decide (4 < (b0.length : Int)) = true := decide_eq_true c9
      have f1 : decide (4 < b0.length) = true := decide_eq_true (by omega)
      clear c9
      obtain ⟨g7, d9⟩ : ∃ y_ : List (List (S75)), y_ = (([] : List (List (S75)))) := ⟨_, rfl⟩
      replace H : (some (g7, false)) = some (r1, r2) := zY d9 H
      have f2 := Aside0.mk d9
      clear d9
      simp only [Option.some.injEq, Prod.mk.injEq] at H
      obtain ⟨rfl, rfl⟩ := H
      obtain ⟨f3, f4, g8⟩ := Kd.N_slice a2.out
      subst g8
      go_wp2_with (first | ((with_reducible refine gate_dst (N := 43) rfl ?_); refine Kd.N_lit (Kd.slice 75 k75) _ 108 ?hg (N' := 43) ?hd (xs := ([] : List (List (S75)))) (inner := []) (ok := (fun k_ => (w.heap.size ≤ k_) ∧ some k_ ≠ (.slice f3 b0.length f4 : Value).ownBlock ∧ some k_ ≠ (.slice c6 a4.length a9 : Value).ownBlock)) ?hr ?hp (fun _ hk => hk) ((show ∀ k_, wr.heap.size ≤ k_ → (fun k_ => (w.heap.size ≤ k_) ∧ some k_ ≠ (.slice f3 b0.length f4 : Value).ownBlock ∧ some k_ ≠ (.slice c6 a4.length a9 : Value).ownBlock) k_ from fun k_ hk => ⟨(Nat.le_trans (below_size (zB)) hk), Kd.fresh' (Kd.N_lt (zN a2.out)) k_ hk, Kd.fresh' (Kd.R_lt (zR a1.out)) k_ hk⟩) _ (Nat.le_refl _)) (Below.refl _ _) (Nat.le_refl _) (by simp) ?_; (case hd => rfl); (case hg => rfl); (case hr => first | (go_simp; done) | (go_simp; rfl)); (case hp => exact (Reps.none _ _)); intro i8 i9 c0 hb hg_ hnew_; clear hg_ hnew_; (first | rw [← f2.out] at c0 | (simp only [Int.reduceToNat] at c0; rw [← f2.out] at c0)); replace a2 := zA (Kd.N_elder' (zN a2.out) (Kd.N_base c0) hb); replace a1 := zr a1 hb; have g9 := zA (Kd.N_lower c0 (below_size (zB))); replace HB := zA (below_step (zB) hb); clear hb c0))
      go_ret2
      exact ⟨_, zE, zNt (Kd.N_mono g9.out (fun _ hk => hk.1)), zB⟩
     ·have f0 : decide (4 < (b0.length : Int)) = false := decide_eq_false c9
      have f1 : decide (4 < b0.length) = false := decide_eq_false (by omega)
      clear c9
      simp only [Option.some.injEq, Prod.mk.injEq] at H
      obtain ⟨rfl, rfl⟩ := H
      obtain ⟨j0, j2, h0⟩ := Kd.N_slice a2.out
      subst h0
      go_wp2
      go_ret2
      exact ⟨_, zE, zNt (Kd.N_mono a2.out (fun _ hk => hk.1)), zB⟩
   case rest =>
    clear d8
    try clear p2
    try clear c3
    try clear c7
    try clear c8
    try clear b9
    try clear c9
    try clear f0
    try clear f1
    try clear p2
    obtain ⟨kq, HA, f5, a2, a1, HB⟩ := hcut
    cases kq with
    | zero => exact absurd HA.out (by simp [spec_ParseRange.j1])
    | succ b1 =>
     have H := HA.out
     clear HA
     simp only [spec_ParseRange.j1] at H
     replace H := zD0 H
     obtain ⟨j3, H⟩ := H
     replace H := zD0 H
     obtain ⟨j4, H⟩ := H
     replace H := zj H
     obtain ⟨b6, e0, H⟩ := H
     try dsimp only at H
     replace H := zj H
     obtain ⟨a8, e1, H⟩ := H
     try dsimp only at H
     replace H := zj H
     obtain ⟨⟨b5, j5⟩, e2, H⟩ := H
     try dsimp only at H
     replace H := zB0 H
     rcases H with ⟨rfl, H⟩ | ⟨rfl, H⟩
     ·replace H := zj H
      obtain ⟨j6, f6, H⟩ := H
      try dsimp only at H
      replace H := zB0 H
      rcases H with ⟨rfl, H⟩ | ⟨rfl, H⟩
      ·replace H := zC0 H
       obtain ⟨f7, H⟩ := H
       have h1 := Aside0.mk f7
       clear f7
       obtain ⟨f8, e3⟩ : ∃ y_ : List (List (S75)), y_ = (b0 ++ [b5]) := ⟨_, rfl⟩
       replace H : (spec_ParseRange.l0 b1 f8 a4 (wrap64 (a6 + 1))) = some (r1, r2) := zY e3 H
       have h2 := Aside0.mk e3
       clear e3
       have H' := Aside0.mk H
       clear H
       have b3 : 0 ≤ (a6 : Int) := zD
       have b4 : a6 < (a4.length : Int) := zD
       obtain ⟨b2, c5, f9⟩ := Kd.at_string (Kd.R_reads' a1.out).2.2 a6 b3 b4
       cases c5
       replace b3 := eq_true b3
       replace b4 := eq_true b4
       go_wp2_with (first | ((with_reducible refine zq 79 ?_); refine zg (some 23) Tryz.func79 #[.string (rdOf ByteArray.empty a4 a6)] ?_; (with_reducible refine (spec_l4Trim.calls b1 (rdOf ByteArray.empty a4 a6) b6 _ e0.out).mono ?_); rintro e w' ⟨rfl, ⟨nd, rfl⟩⟩; refine ⟨_, rfl, ?_⟩) | ((with_reducible refine zq 78 ?_); refine zg (some 24) Tryz.func78 #[.string b6, .int .u8 32] ?_; (with_reducible refine (spec_Split.calls b1 b6 32 a8 _ e1.out).mono ?_); rintro e j7 ⟨g0, rfl, a5, hb⟩; refine ⟨_, rfl, ?_⟩; replace a2 := zA (Kd.N_elder' (zN a2.out) (Kd.R_base a5) hb); have a3 := zA (Kd.R_lower (Kd.R_new' (Kd.R_newM (M := fun k_ => (w.heap.size ≤ k_)) a5 (below_size (zB)) (fun k_ h_ => h_)) (Kd.R_lt (zR a1.out))) (below_size (zB))); replace a1 := zA (Kd.R_elder' (zR a1.out) (Kd.R_base a5) hb); replace HB := zA (below_step (zB) hb); (try clear hb a5); obtain ⟨c1, c2, h3⟩ := Kd.R_slice a3.out; subst h3) | ((with_reducible refine zq 77 ?_); refine zg (some 25) Tryz.func77 #[.slice c1 a8.length c2] ?_; (with_reducible refine (spec_l4List.calls b1 _ _ a8 b5 true _ ?side1 ?side2 e2.out).mono ?_); (case side1 => repeat (first | exact (Kd.R_reads' a3.out).2.2 | (with_reducible refine Kd.C_alloc ?_ _) | (with_reducible refine Kd.C_drewN ?_ _) | (with_reducible refine Kd.C_drew ?_))); (case side2 => exact (Kd.R_reads' a3.out).2.1); rintro e j8 ⟨d0, rfl, a5, hb⟩; refine ⟨_, rfl, ?_⟩; have a7 := zA (Kd.N_lower (Kd.N_mono (ok' := fun k_ => (w.heap.size ≤ k_) ∧ some k_ ≠ (u4 : Value).ownBlock ∧ some k_ ≠ (.slice (some b2) a4.length a9 : Value).ownBlock ∧ some k_ ≠ (.slice c1 a8.length c2 : Value).ownBlock) a5 (fun k_ hk_ => ⟨(Nat.le_trans (below_size (zB)) hk_), (Kd.fresh' (Kd.N_lt (zN a2.out)) k_ hk_), (Kd.fresh' (Kd.R_lt (zR a1.out)) k_ hk_), (Kd.fresh' (Kd.R_lt (zR a3.out)) k_ hk_)⟩)) (below_size (zB))); replace a2 := zA (Kd.N_elder' (zN a2.out) (Kd.N_base a5) hb); replace a1 := zr a1 hb; replace a3 := zr a3 hb; replace HB := zA (below_step (zB) hb); (try clear hb a5); obtain ⟨h4, h5, h6⟩ := Kd.N_slice a7.out; subst h6) | (go_at_call 80; (with_reducible refine (spec_l4Good.calls b1 _ _ b5 true _ ?side1 ?side2 f6.out).mono ?_); (case side1 => repeat (first | exact (Kd.N_reads' a7.out).2.2 | (with_reducible refine Kd.C_alloc ?_ _) | (with_reducible refine Kd.C_drewN ?_ _) | (with_reducible refine Kd.C_drew ?_))); (case side2 => exact (Kd.N_reads' a7.out).2.1); rintro e j9 ⟨rfl, hb⟩; replace a2 := zA (Kd.N_below (zN a2.out) hb); replace a1 := zr a1 hb; replace a3 := zr a3 hb; replace a7 := zA (Kd.N_below (zN a7.out) hb); replace HB := zA (below_step (zB) hb); (try clear hb)) | ((with_reducible refine gate_builtin (b := .append) (xs := #[.tmp 36, .tmp 38]) rfl ?_); at_builtin; refine Kd.N_append (Kd.slice 75 k75) (w0 := w) w.heap.size rfl (.tmp 36) (.tmp 38) 63 108 (.slice none 0 0) 24 rfl Tryz.underlying63 info108 rfl (by decide) (by omega) u4 b0 b5 [.slice h4 b5.length h5] (fun k_ => (w.heap.size ≤ k_) ∧ some k_ ≠ (.slice (some b2) a4.length a9 : Value).ownBlock ∧ some k_ ≠ (.slice c1 a8.length c2 : Value).ownBlock) (fun k_ => ((fun k_ => (w.heap.size ≤ k_) ∧ some k_ ≠ (.slice (some b2) a4.length a9 : Value).ownBlock ∧ some k_ ≠ (.slice c1 a8.length c2 : Value).ownBlock)) k_ ∧ some k_ ≠ (u4 : Value).ownBlock) rfl rfl ?aP (fun _ hk => hk) ?aF ?aO ?aB ?aS ?aL ?_; (case aP => exact (Kd.FK_slice_mk (Kd.N_reads' (Kd.N_mono (ok' := (fun k_ => ((fun k_ => (w.heap.size ≤ k_) ∧ some k_ ≠ (.slice (some b2) a4.length a9 : Value).ownBlock ∧ some k_ ≠ (.slice c1 a8.length c2 : Value).ownBlock)) k_ ∧ some k_ ≠ (u4 : Value).ownBlock)) (a7.out) (fun k_ hk => ⟨⟨hk.1, ⟨hk.2.2.1, hk.2.2.2⟩⟩, hk.2.1⟩))).2.1 (Kd.N_F (Kd.N_mono (ok' := (fun k_ => ((fun k_ => (w.heap.size ≤ k_) ∧ some k_ ≠ (.slice (some b2) a4.length a9 : Value).ownBlock ∧ some k_ ≠ (.slice c1 a8.length c2 : Value).ownBlock)) k_ ∧ some k_ ≠ (u4 : Value).ownBlock)) (a7.out) (fun k_ hk => ⟨⟨hk.1, ⟨hk.2.2.1, hk.2.2.2⟩⟩, hk.2.1⟩))))); (case aB => exact (zB)); (case aF => exact (fun k_ hk => ⟨(Nat.le_trans (below_size (zB)) hk), Kd.fresh' (Kd.R_lt (zR a1.out)) k_ hk, Kd.fresh' (Kd.R_lt (zR a3.out)) k_ hk⟩)); (case aO => exact (zNt (Kd.N_mono a2.out (fun _ hk => ⟨hk.1.1.1, ⟨hk.1.1.2, hk.1.2⟩⟩)))); (case aS => exact (below_size (zB))); (case aL => have := h1.out; omega); intro k0 k2 ho hb hg hat; rw [← h2.out] at ho; replace a1 := zA (Kd.R_over' (zR a1.out) (Kd.N_typed (zN a2.out)) (by decide) hg); replace a3 := zA (Kd.R_over' (zR a3.out) (Kd.N_typed (zN a2.out)) (by decide) hg); replace HB := zA (hb); have h7 := zA (ho); clear a2 a7; clear ho hb hg hat))
       go_roundg b1
       case measure => have := d7.out; have := f5.out; omega
       case rel => exact ⟨(f8), (wrap64 (a6 + 1)), zS, H', ⟨by have := d7.out; have := f5.out; omega⟩, ⟨zNt (Kd.N_mono h7.out (fun _ hk => ⟨hk.1, hk.2.1⟩))⟩, ⟨zR (Kd.R_mono a1.out (fun _ hk => hk.1))⟩, ⟨zB⟩⟩
      ·obtain ⟨h8, e4⟩ : ∃ y_ : List (List (S75)), y_ = (([] : List (List (S75)))) := ⟨_, rfl⟩
       replace H : (some (h8, false)) = some (r1, r2) := zY e4 H
       have g1 := Aside0.mk e4
       clear e4
       simp only [Option.some.injEq, Prod.mk.injEq] at H
       obtain ⟨rfl, rfl⟩ := H
       have b3 : 0 ≤ (a6 : Int) := zD
       have b4 : a6 < (a4.length : Int) := zD
       obtain ⟨b2, c5, f9⟩ := Kd.at_string (Kd.R_reads' a1.out).2.2 a6 b3 b4
       cases c5
       replace b3 := eq_true b3
       replace b4 := eq_true b4
       go_wp2_with (first | ((with_reducible refine zq 79 ?_); refine zg (some 23) Tryz.func79 #[.string (rdOf ByteArray.empty a4 a6)] ?_; (with_reducible refine (spec_l4Trim.calls b1 (rdOf ByteArray.empty a4 a6) b6 _ e0.out).mono ?_); rintro e w' ⟨rfl, ⟨nd, rfl⟩⟩; refine ⟨_, rfl, ?_⟩) | ((with_reducible refine zq 78 ?_); refine zg (some 24) Tryz.func78 #[.string b6, .int .u8 32] ?_; (with_reducible refine (spec_Split.calls b1 b6 32 a8 _ e1.out).mono ?_); rintro e k3 ⟨g0, rfl, a5, hb⟩; refine ⟨_, rfl, ?_⟩; replace a2 := zA (Kd.N_elder' (zN a2.out) (Kd.R_base a5) hb); have a3 := zA (Kd.R_lower (Kd.R_new' (Kd.R_newM (M := fun k_ => (w.heap.size ≤ k_)) a5 (below_size (zB)) (fun k_ h_ => h_)) (Kd.R_lt (zR a1.out))) (below_size (zB))); replace a1 := zA (Kd.R_elder' (zR a1.out) (Kd.R_base a5) hb); replace HB := zA (below_step (zB) hb); (try clear hb a5); obtain ⟨d1, d2, h9⟩ := Kd.R_slice a3.out; subst h9) | ((with_reducible refine zq 77 ?_); refine zg (some 25) Tryz.func77 #[.slice d1 a8.length d2] ?_; (with_reducible refine (spec_l4List.calls b1 _ _ a8 b5 true _ ?side1 ?side2 e2.out).mono ?_); (case side1 => repeat (first | exact (Kd.R_reads' a3.out).2.2 | (with_reducible refine Kd.C_alloc ?_ _) | (with_reducible refine Kd.C_drewN ?_ _) | (with_reducible refine Kd.C_drew ?_))); (case side2 => exact (Kd.R_reads' a3.out).2.1); rintro e k4 ⟨d0, rfl, a5, hb⟩; refine ⟨_, rfl, ?_⟩; have a7 := zA (Kd.N_lower (Kd.N_mono (ok' := fun k_ => (w.heap.size ≤ k_) ∧ some k_ ≠ (u4 : Value).ownBlock ∧ some k_ ≠ (.slice (some b2) a4.length a9 : Value).ownBlock ∧ some k_ ≠ (.slice d1 a8.length d2 : Value).ownBlock) a5 (fun k_ hk_ => ⟨(Nat.le_trans (below_size (zB)) hk_), (Kd.fresh' (Kd.N_lt (zN a2.out)) k_ hk_), (Kd.fresh' (Kd.R_lt (zR a1.out)) k_ hk_), (Kd.fresh' (Kd.R_lt (zR a3.out)) k_ hk_)⟩)) (below_size (zB))); replace a2 := zA (Kd.N_elder' (zN a2.out) (Kd.N_base a5) hb); replace a1 := zr a1 hb; replace a3 := zr a3 hb; replace HB := zA (below_step (zB) hb); (try clear hb a5); obtain ⟨g2, g3, i0⟩ := Kd.N_slice a7.out; subst i0) | (go_at_call 80; (with_reducible refine (spec_l4Good.calls b1 _ _ b5 false _ ?side1 ?side2 f6.out).mono ?_); (case side1 => repeat (first | exact (Kd.N_reads' a7.out).2.2 | (with_reducible refine Kd.C_alloc ?_ _) | (with_reducible refine Kd.C_drewN ?_ _) | (with_reducible refine Kd.C_drew ?_))); (case side2 => exact (Kd.N_reads' a7.out).2.1); rintro e i1 ⟨rfl, hb⟩; replace a2 := zA (Kd.N_below (zN a2.out) hb); replace a1 := zr a1 hb; replace a3 := zr a3 hb; replace a7 := zA (Kd.N_below (zN a7.out) hb); replace HB := zA (below_step (zB) hb); (try clear hb)) | ((with_reducible refine gate_dst (N := 35) rfl ?_); refine Kd.N_lit (Kd.slice 75 k75) _ 108 ?hg (N' := 35) ?hd (xs := ([] : List (List (S75)))) (inner := []) (ok := (fun k_ => (w.heap.size ≤ k_) ∧ some k_ ≠ (u4 : Value).ownBlock ∧ some k_ ≠ (.slice (some b2) a4.length a9 : Value).ownBlock ∧ some k_ ≠ (.slice d1 a8.length d2 : Value).ownBlock ∧ some k_ ≠ (.slice g2 b5.length g3 : Value).ownBlock)) ?hr ?hp (fun _ hk => hk) ((show ∀ k_, i1.heap.size ≤ k_ → (fun k_ => (w.heap.size ≤ k_) ∧ some k_ ≠ (u4 : Value).ownBlock ∧ some k_ ≠ (.slice (some b2) a4.length a9 : Value).ownBlock ∧ some k_ ≠ (.slice d1 a8.length d2 : Value).ownBlock ∧ some k_ ≠ (.slice g2 b5.length g3 : Value).ownBlock) k_ from fun k_ hk => ⟨(Nat.le_trans (below_size (zB)) hk), Kd.fresh' (Kd.N_lt (zN a2.out)) k_ hk, Kd.fresh' (Kd.R_lt (zR a1.out)) k_ hk, Kd.fresh' (Kd.R_lt (zR a3.out)) k_ hk, Kd.fresh' (Kd.N_lt (zN a7.out)) k_ hk⟩) _ (Nat.le_refl _)) (Below.refl _ _) (Nat.le_refl _) (by simp) ?_; (case hd => rfl); (case hg => rfl); (case hr => first | (go_simp; done) | (go_simp; rfl)); (case hp => exact (Reps.none _ _)); intro k5 k6 b7 hb hg_ hnew_; clear hg_ hnew_; (first | rw [← g1.out] at b7 | (simp only [Int.reduceToNat] at b7; rw [← g1.out] at b7)); replace a2 := zA (Kd.N_elder' (zN a2.out) (Kd.N_base b7) hb); replace a1 := zr a1 hb; replace a3 := zr a3 hb; replace a7 := zA (Kd.N_elder' (zN a7.out) (Kd.N_base b7) hb); have i2 := zA (Kd.N_lower b7 (below_size (zB))); replace HB := zA (below_step (zB) hb); clear hb b7))
       go_ret2
       exact ⟨_, zE, zNt (Kd.N_mono i2.out (fun _ hk => hk.1)), zB⟩
     ·obtain ⟨i3, e5⟩ : ∃ y_ : List (List (S75)), y_ = (([] : List (List (S75)))) := ⟨_, rfl⟩
      replace H : (some (i3, false)) = some (r1, r2) := zY e5 H
      have g4 := Aside0.mk e5
      clear e5
      simp only [Option.some.injEq, Prod.mk.injEq] at H
      obtain ⟨rfl, rfl⟩ := H
      have b3 : 0 ≤ (a6 : Int) := zD
      have b4 : a6 < (a4.length : Int) := zD
      obtain ⟨b2, c5, f9⟩ := Kd.at_string (Kd.R_reads' a1.out).2.2 a6 b3 b4
      cases c5
      replace b3 := eq_true b3
      replace b4 := eq_true b4
      go_wp2_with (first | ((with_reducible refine zq 79 ?_); refine zg (some 23) Tryz.func79 #[.string (rdOf ByteArray.empty a4 a6)] ?_; (with_reducible refine (spec_l4Trim.calls b1 (rdOf ByteArray.empty a4 a6) b6 _ e0.out).mono ?_); rintro e w' ⟨rfl, ⟨nd, rfl⟩⟩; refine ⟨_, rfl, ?_⟩) | ((with_reducible refine zq 78 ?_); refine zg (some 24) Tryz.func78 #[.string b6, .int .u8 32] ?_; (with_reducible refine (spec_Split.calls b1 b6 32 a8 _ e1.out).mono ?_); rintro e k7 ⟨g0, rfl, a5, hb⟩; refine ⟨_, rfl, ?_⟩; replace a2 := zA (Kd.N_elder' (zN a2.out) (Kd.R_base a5) hb); have a3 := zA (Kd.R_lower (Kd.R_new' (Kd.R_newM (M := fun k_ => (w.heap.size ≤ k_)) a5 (below_size (zB)) (fun k_ h_ => h_)) (Kd.R_lt (zR a1.out))) (below_size (zB))); replace a1 := zA (Kd.R_elder' (zR a1.out) (Kd.R_base a5) hb); replace HB := zA (below_step (zB) hb); (try clear hb a5); obtain ⟨d3, d4, i4⟩ := Kd.R_slice a3.out; subst i4) | ((with_reducible refine zq 77 ?_); refine zg (some 25) Tryz.func77 #[.slice d3 a8.length d4] ?_; (with_reducible refine (spec_l4List.calls b1 _ _ a8 b5 false _ ?side1 ?side2 e2.out).mono ?_); (case side1 => repeat (first | exact (Kd.R_reads' a3.out).2.2 | (with_reducible refine Kd.C_alloc ?_ _) | (with_reducible refine Kd.C_drewN ?_ _) | (with_reducible refine Kd.C_drew ?_))); (case side2 => exact (Kd.R_reads' a3.out).2.1); rintro e i5 ⟨d0, rfl, a5, hb⟩; refine ⟨_, rfl, ?_⟩; have a7 := zA (Kd.N_lower (Kd.N_mono (ok' := fun k_ => (w.heap.size ≤ k_) ∧ some k_ ≠ (u4 : Value).ownBlock ∧ some k_ ≠ (.slice (some b2) a4.length a9 : Value).ownBlock ∧ some k_ ≠ (.slice d3 a8.length d4 : Value).ownBlock) a5 (fun k_ hk_ => ⟨(Nat.le_trans (below_size (zB)) hk_), (Kd.fresh' (Kd.N_lt (zN a2.out)) k_ hk_), (Kd.fresh' (Kd.R_lt (zR a1.out)) k_ hk_), (Kd.fresh' (Kd.R_lt (zR a3.out)) k_ hk_)⟩)) (below_size (zB))); replace a2 := zA (Kd.N_elder' (zN a2.out) (Kd.N_base a5) hb); replace a1 := zr a1 hb; replace a3 := zr a3 hb; replace HB := zA (below_step (zB) hb); (try clear hb a5)) | ((with_reducible refine gate_dst (N := 35) rfl ?_); refine Kd.N_lit (Kd.slice 75 k75) _ 108 ?hg (N' := 35) ?hd (xs := ([] : List (List (S75)))) (inner := []) (ok := (fun k_ => (w.heap.size ≤ k_) ∧ some k_ ≠ (u4 : Value).ownBlock ∧ some k_ ≠ (.slice (some b2) a4.length a9 : Value).ownBlock ∧ some k_ ≠ (.slice d3 a8.length d4 : Value).ownBlock ∧ some k_ ≠ (d0 : Value).ownBlock)) ?hr ?hp (fun _ hk => hk) ((show ∀ k_, i5.heap.size ≤ k_ → (fun k_ => (w.heap.size ≤ k_) ∧ some k_ ≠ (u4 : Value).ownBlock ∧ some k_ ≠ (.slice (some b2) a4.length a9 : Value).ownBlock ∧ some k_ ≠ (.slice d3 a8.length d4 : Value).ownBlock ∧ some k_ ≠ (d0 : Value).ownBlock) k_ from fun k_ hk => ⟨(Nat.le_trans (below_size (zB)) hk), Kd.fresh' (Kd.N_lt (zN a2.out)) k_ hk, Kd.fresh' (Kd.R_lt (zR a1.out)) k_ hk, Kd.fresh' (Kd.R_lt (zR a3.out)) k_ hk, Kd.fresh' (Kd.N_lt (zN a7.out)) k_ hk⟩) _ (Nat.le_refl _)) (Below.refl _ _) (Nat.le_refl _) (by simp) ?_; (case hd => rfl); (case hg => rfl); (case hr => first | (go_simp; done) | (go_simp; rfl)); (case hp => exact (Reps.none _ _)); intro k8 k9 b8 hb hg_ hnew_; clear hg_ hnew_; (first | rw [← g4.out] at b8 | (simp only [Int.reduceToNat] at b8; rw [← g4.out] at b8)); replace a2 := zA (Kd.N_elder' (zN a2.out) (Kd.N_base b8) hb); replace a1 := zr a1 hb; replace a3 := zr a3 hb; replace a7 := zA (Kd.N_elder' (zN a7.out) (Kd.N_base b8) hb); have i6 := zA (Kd.N_lower b8 (below_size (zB))); replace HB := zA (below_step (zB) hb); clear hb b8))
      go_ret2
      exact ⟨_, zE, zNt (Kd.N_mono i6.out (fun _ hk => hk.1)), zB⟩
/-! ### spec_l7Need: function 109 -/
def spec_l7Need.f (k : Nat) (a1 a0 : ByteArray) : Option (Bool) := (spec_ParseRange.f k a0).bind fun a2 => ((spec_NameOk.f k a1).bind fun a3 => (if a3 = true then (if (a0.size : Int) ≤ 20 then (some a2.2) else (some false)) else (some false)))
theorem spec_l7Need.calls (k : Nat) (a2 a1 : ByteArray) (r : Bool) (w : World) (h : spec_l7Need.f k a2 a1 = some r) :
  Calls Tryz.prog 109 #[.agg #[.string a2, .string a1]] w fun e w' => e = .returned (.bool r) ∧ Below w.heap.size w w' := by
 have b3 := Tryz.underlying30
 have HB := zA (Below.refl w.heap.size w)
 unfold spec_l7Need.f at h
 have H := h
 clear h
 replace H := zj H
 obtain ⟨⟨a5, a6⟩, A2, H⟩ := H
 try dsimp only at H
 replace H := zj H
 obtain ⟨b4, A3, H⟩ := H
 try dsimp only at H
 replace H := zB0 H
 rcases H with ⟨rfl, H⟩ | ⟨rfl, H⟩
 ·replace H := zI1 H
  rcases H with ⟨c5, H⟩ | ⟨c5, H⟩
  ·have b1 := decide_eq_true c5
   have b2 : decide (a1.size ≤ 20) = true := decide_eq_true (by omega)
   clear c5
   obtain rfl := Option.some.inj H
   go_enter Tryz.func109, Tryz.ntmps109
   go_wp2_with (first | ((with_reducible refine gate_dst (N := 1) rfl ?_); (try (refine gate_guard (by rfl) ?_; dsimp only)); refine box_event ?hg (N := 1) ?hd (cs := #[.string a2, .string a1]) (t := 30) ?hr ?_; (case hd => rfl); (case hg => rfl); (case hr => first | (go_simp; done) | (go_simp; rfl)); intro a3 hg w6 hbox hb; have a0 := zA (hbox); have a7 := zi HB hg; have a8 := zi HB hg; replace HB := zA (below_step (zB) hb); clear hb hbox hg; obtain ⟨b5, b6, b7, b8⟩ := ze2 a0.out) | ((with_reducible refine zq 31 ?_); refine zg (some 8) Tryz.func31 #[.string a1] ?_; (with_reducible refine (spec_ParseRange.calls k a1 a5 a6 _ A2.out).mono ?_); rintro e w8 ⟨a9, rfl, a4, hb⟩; refine ⟨_, rfl, ?_⟩; have b0 := zA (Kd.N_lower (Kd.N_mono (ok' := fun k_ => k_ ≠ a3) a4 (fun k_ hk_ => (Kd.freshB (g := a3) (o := .cells #[.string a2, .string a1] 30 (0, 0)) (zK a0.out) k_ hk_))) (below_size (zW HB.out))); replace a0 := zb a0 hb; replace HB := zh HB hb; (try clear hb a4); obtain ⟨b9, c0, c1, c2⟩ := ze2 a0.out) | ((with_reducible refine zq 53 ?_); refine zg (some 13) Tryz.func53 #[.string a2] ?_; (with_reducible refine (spec_NameOk.calls k a2 true _ A3.out).mono ?_); rintro e w' ⟨rfl, ⟨nd, rfl⟩⟩; refine ⟨_, rfl, ?_⟩))
   go_ret
   exact ⟨zE, zW HB.out⟩
  ·have b1 := decide_eq_false c5
   have b2 : decide (a1.size ≤ 20) = false := decide_eq_false (by omega)
   clear c5
   obtain rfl := Option.some.inj H
   go_enter Tryz.func109, Tryz.ntmps109
   go_wp2_with (first | ((with_reducible refine gate_dst (N := 1) rfl ?_); (try (refine gate_guard (by rfl) ?_; dsimp only)); refine box_event ?hg (N := 1) ?hd (cs := #[.string a2, .string a1]) (t := 30) ?hr ?_; (case hd => rfl); (case hg => rfl); (case hr => first | (go_simp; done) | (go_simp; rfl)); intro a3 hg c3 hbox hb; have a0 := zA (hbox); have a7 := zi HB hg; have a8 := zi HB hg; replace HB := zA (below_step (zB) hb); clear hb hbox hg; obtain ⟨c4, c6, c7, c8⟩ := ze2 a0.out) | ((with_reducible refine zq 31 ?_); refine zg (some 8) Tryz.func31 #[.string a1] ?_; (with_reducible refine (spec_ParseRange.calls k a1 a5 a6 _ A2.out).mono ?_); rintro e c9 ⟨a9, rfl, a4, hb⟩; refine ⟨_, rfl, ?_⟩; have b0 := zA (Kd.N_lower (Kd.N_mono (ok' := fun k_ => k_ ≠ a3) a4 (fun k_ hk_ => (Kd.freshB (g := a3) (o := .cells #[.string a2, .string a1] 30 (0, 0)) (zK a0.out) k_ hk_))) (below_size (zW HB.out))); replace a0 := zb a0 hb; replace HB := zh HB hb; (try clear hb a4); obtain ⟨d0, d1, d2, d3⟩ := ze2 a0.out) | ((with_reducible refine zq 53 ?_); refine zg (some 13) Tryz.func53 #[.string a2] ?_; (with_reducible refine (spec_NameOk.calls k a2 true _ A3.out).mono ?_); rintro e w' ⟨rfl, ⟨nd, rfl⟩⟩; refine ⟨_, rfl, ?_⟩))
   go_ret
   exact ⟨zE, zW HB.out⟩
 ·obtain rfl := Option.some.inj H
  go_enter Tryz.func109, Tryz.ntmps109
  go_wp2_with (first | ((with_reducible refine gate_dst (N := 1) rfl ?_); (try (refine gate_guard (by rfl) ?_; dsimp only)); refine box_event ?hg (N := 1) ?hd (cs := #[.string a2, .string a1]) (t := 30) ?hr ?_; (case hd => rfl); (case hg => rfl); (case hr => first | (go_simp; done) | (go_simp; rfl)); intro a3 hg d4 hbox hb; have a0 := zA (hbox); have a7 := zi HB hg; have a8 := zi HB hg; replace HB := zA (below_step (zB) hb); clear hb hbox hg; obtain ⟨d5, d6, d7, d8⟩ := ze2 a0.out) | ((with_reducible refine zq 31 ?_); refine zg (some 8) Tryz.func31 #[.string a1] ?_; (with_reducible refine (spec_ParseRange.calls k a1 a5 a6 _ A2.out).mono ?_); rintro e d9 ⟨a9, rfl, a4, hb⟩; refine ⟨_, rfl, ?_⟩; have b0 := zA (Kd.N_lower (Kd.N_mono (ok' := fun k_ => k_ ≠ a3) a4 (fun k_ hk_ => (Kd.freshB (g := a3) (o := .cells #[.string a2, .string a1] 30 (0, 0)) (zK a0.out) k_ hk_))) (below_size (zW HB.out))); replace a0 := zb a0 hb; replace HB := zh HB hb; (try clear hb a4); obtain ⟨e0, e1, e2, e3⟩ := ze2 a0.out) | ((with_reducible refine zq 53 ?_); refine zg (some 13) Tryz.func53 #[.string a2] ?_; (with_reducible refine (spec_NameOk.calls k a2 false _ A3.out).mono ?_); rintro e w' ⟨rfl, ⟨nd, rfl⟩⟩; refine ⟨_, rfl, ?_⟩))
  go_ret
  exact ⟨zE, zW HB.out⟩
end Go.Proofs.YtpcdhoeoefoeoaaGreatDoor.PGC
