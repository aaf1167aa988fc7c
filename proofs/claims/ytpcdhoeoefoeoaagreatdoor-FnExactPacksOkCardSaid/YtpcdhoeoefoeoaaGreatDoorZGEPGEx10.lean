/- The walks of the functions that these laws reach, and what each comes to: printed by this session's program. -/
import Derived.Test.YtpcdhoeoefoeoaaGreatDoorZGEPGEx0
import Derived.Test.YtpcdhoeoefoeoaaGreatDoorZGEPGEx1
import Derived.Test.YtpcdhoeoefoeoaaGreatDoorZGEPGEx7
import Derived.Test.YtpcdhoeoefoeoaaGreatDoorZGESays
import Derived.Test.YtpcdhoeoefoeoaaGreatDoorZGERegN
import Derived.Test.YtpcdhoeoefoeoaaGreatDoorZGERegs
namespace Go.Proofs.YtpcdhoeoefoeoaaGreatDoor.PGE
open Go.RowKit YtpcdhoeoefoeoaaGreatDoorW.PrintWords YtpcdhoeoefoeoaaGreatDoorW.PrintLast YtpcdhoeoefoeoaaGreatDoorW.PrintMore
attribute [local go_sem high] Mine.str_gtr Mine.str_leq Mine.str_geq
attribute [local go_sem] max2_int min2_int max_two min_two max_three min_three max_four min_four   -- for this text's walks alone
set_option linter.unusedVariables false
set_option maxHeartbeats 8000000
set_option maxRecDepth 100000
set_option linter.unusedSimpArgs false
/-! ### spec_ParseRange: function 31 -/
mutual
def spec_ParseRange.l0 : Nat → List (List (S75)) → List ByteArray → Int → Option ((List (List (S75))) × Bool)
 | 0, _, _, _ => none
 | k + 1, x4, x5, x6 => if x6 < (x5.length : Int) then (spec_ParseRange.j1 k x4 x5 x6) else (if (x4.length : Int) > 4 then (some ((([] : List (List (S75)))), false)) else (some (x4, true)))
def spec_ParseRange.j1 : Nat → List (List (S75)) → List ByteArray → Int → Option ((List (List (S75))) × Bool)
 | 0, _, _, _ => none
 | k + 1, x4, x5, x6 => if 0 ≤ x6 then (if x6 < (x5.length : Int) then ((spec_l4Trim.f k (rdOf ByteArray.empty x5 x6)).bind fun a1 => ((spec_Split.f k a1 32).bind fun a2 => ((spec_l4List.f k a2).bind fun a0 => (if a0.2 = true then ((spec_l4Good.f k a0.1).bind fun a3 => (if a3 = true then (if x4.length < 5864062014805 then (spec_ParseRange.l0 k (x4 ++ [a0.1]) x5 (wrap64 (x6 + 1))) else (none)) else (some ((([] : List (List (S75)))), false)))) else (some ((([] : List (List (S75)))), false)))))) else (none)) else (none)
end
def spec_ParseRange.f (k : Nat) (a0 : ByteArray) : Option ((List (List (S75))) × Bool) := (spec_l4Sides.f k a0).bind fun a1 => (spec_ParseRange.l0 k (([] : List (List (S75)))) a1 0)
theorem spec_ParseRange.calls (k : Nat) (a0 : ByteArray) (r1 : List (List (S75))) (r2 : Bool) (w : World) (h : spec_ParseRange.f k a0 = some (r1, r2)) :
  Calls Tryz.prog 31 #[.string a0] w fun e w' => ∃ e7 : Value, e = .returned (.tuple #[e7, .bool r2]) ∧ Kd.N (Kd.slice 75 k75) 108 w' w.heap.size (fun k_ => (w.heap.size ≤ k_)) e7 r1 ∧ Below w.heap.size w w' := by
 have HB := zA (Below.refl w.heap.size w)
 unfold spec_ParseRange.f at h
 have H := h
 clear h
 obtain ⟨e8, d0⟩ : ∃ y_ : List (List (S75)), y_ = (([] : List (List (S75)))) := ⟨_, rfl⟩
 replace H : ((spec_l4Sides.f k a0).bind fun a5 => (spec_ParseRange.l0 k e8 a5 0)) = some (r1, r2) := zY d0 H
 have e9 := zA d0
 clear d0
 replace H := Option.bind_eq_some_iff.mp H
 obtain ⟨a5, c4, H⟩ := H
 try dsimp only at H
 have A2 := zA c4
 clear c4
 have H' := zA H
 clear H
 go_enter Tryz.func31, Tryz.ntmps31
 go_wp2_with (first | ((with_reducible refine gate_dst (N := 9) rfl ?_); refine zNl (Kd.slice 75 k75) 108 9 (xs := ([] : List (List (S75)))) (inner := []) (ok := (fun k_ => (w.heap.size ≤ k_))) ((Reps.none _ _)) (fun k_ hk => (Nat.le_trans (below_size (zB)) hk)) ?_; intro i9 w3 c5 hb hg_ hnew_; clear hg_ hnew_; (first | rw [← e9.out] at c5 | (simp only [Int.reduceToNat] at c5; rw [← e9.out] at c5)); have d1 := zA (Kd.N_lower c5 (below_size (zB))); replace HB := zA (below_step (zB) hb); clear hb c5) | ((with_reducible refine zq 76 ?_); refine zg (some 11) Tryz.func76 #[.string a0] ?_; (with_reducible refine (spec_l4Sides.calls k a0 a5 _ A2.out).mono ?_); rintro e w5 ⟨f0, rfl, a4, hb⟩; refine ⟨_, rfl, ?_⟩; replace d1 := zA (Kd.N_elder' (zN d1.out) (Kd.R_base a4) hb); have g5 := zA (Kd.R_lower (Kd.R_newM (M := fun k_ => (w.heap.size ≤ k_)) a4 (below_size (zB)) (fun k_ h_ => h_)) (below_size (zB))); replace HB := zA (below_step (zB) hb); (try clear hb a4)))
 go_loopg [4, 6] k (fun kq v4 v6 w' => ∃ (b0 : List (List (S75))) (a6 : Int), v6 = .int .i64 a6 ∧ Aside0 (spec_ParseRange.l0 kq b0 a5 a6 = some (r1, r2)) ∧ Aside0 (kq ≤ k) ∧ Aside0 (Kd.N (Kd.slice 75 k75) 108 w' w.heap.size (fun k_ => (w.heap.size ≤ k_) ∧ some k_ ≠ (f0 : Value).ownBlock) v4 b0) ∧ Aside0 (Kd.R Kd.string 9 w' w.heap.size (fun k_ => (w.heap.size ≤ k_)) f0 a5) ∧ Aside0 (Below w.heap.size w w'))
 case atStart => exact ⟨(e8), (0), zS, H', ⟨Nat.le_refl _⟩, ⟨zN d1.out⟩, ⟨zR (Kd.R_mono g5.out (fun _ hk => hk.1))⟩, ⟨zB⟩⟩
 case round =>
  clear H'
  try clear p2
  try clear c3
  obtain ⟨b0, a6, rfl, HA, d2, a2, a1, HB⟩ := hrel
  cases gk with
  | zero => exact absurd HA.out (by simp [spec_ParseRange.l0])
  | succ k1 =>
   have H := HA.out; clear HA; simp only [spec_ParseRange.l0] at H; have d3 := zA H; clear H; obtain ⟨d4, b1, g6⟩ := Kd.R_slice a1.out; subst g6
   go_upto_if 15 with (fail)
   go_cut [] (fun wc => ∃ (kq : Nat), Aside0 (spec_ParseRange.j1 kq b0 a5 a6 = some (r1, r2)) ∧ Aside0 (kq ≤ k1) ∧ Aside0 (Kd.N (Kd.slice 75 k75) 108 wc w.heap.size (fun k_ => (w.heap.size ≤ k_) ∧ some k_ ≠ ((.slice d4 a5.length b1) : Value).ownBlock) u4 b0) ∧ Aside0 (Kd.R Kd.string 9 wc w.heap.size (fun k_ => (w.heap.size ≤ k_)) (.slice d4 a5.length b1) a5) ∧ Aside0 (Below w.heap.size w wc))
   case first =>
    have H := d3.out; clear d3; replace H := zI0 H
    rcases H with ⟨b9, H⟩ | ⟨b9, H⟩
    ·(first | rw [b9] | (simp only [i64_w, i32_w]; rw [b9]) | skip)
     have H' := zA H; clear H
     go_wp2
     go_meet
     case rel => exact ⟨_, (by first | exact H' | (subst_vars; exact H')), ⟨by have := d2.out; first | omega | exact Nat.le_refl _⟩, ⟨zN a2.out⟩, ⟨zR a1.out⟩, ⟨zB⟩⟩
    (first | rw [b9] | (simp only [i64_w, i32_w]; rw [b9]) | skip)
    replace H := zI1 H
    rcases H with ⟨c9, H⟩ | ⟨c9, H⟩
    ·have f1 : decide (4 < (b0.length : Int)) = true := decide_eq_true c9; have f2 : decide (4 < b0.length) = true := decide_eq_true (by omega); clear c9; obtain ⟨g7, d5⟩ : ∃ y_ : List (List (S75)), y_ = (([] : List (List (S75)))) := ⟨_, rfl⟩; replace H : (some (g7, false)) = some (r1, r2) := zY d5 H; have f3 := zA d5; clear d5; simp only [zU] at H; obtain ⟨rfl, rfl⟩ := H; obtain ⟨g8, g9, h0⟩ := Kd.N_slice a2.out; subst h0
     go_wp2_with (first | ((with_reducible refine gate_dst (N := 43) rfl ?_); refine zNl (Kd.slice 75 k75) 108 43 (xs := ([] : List (List (S75)))) (inner := []) (ok := (fun k_ => (w.heap.size ≤ k_) ∧ some k_ ≠ (.slice g8 b0.length g9 : Value).ownBlock ∧ some k_ ≠ (.slice d4 a5.length b1 : Value).ownBlock)) ((Reps.none _ _)) (fun k_ hk => ⟨(Nat.le_trans (below_size (zB)) hk), Kd.fresh' (Kd.N_lt (zN a2.out)) k_ hk, Kd.fresh' (Kd.R_lt (zR a1.out)) k_ hk⟩) ?_; intro j0 j2 c0 hb hg_ hnew_; clear hg_ hnew_; (first | rw [← f3.out] at c0 | (simp only [Int.reduceToNat] at c0; rw [← f3.out] at c0)); replace a2 := zA (Kd.N_elder' (zN a2.out) (Kd.N_base c0) hb); replace a1 := zr a1 hb; have h1 := zA (Kd.N_lower c0 (below_size (zB))); replace HB := zA (below_step (zB) hb); clear hb c0))
     go_ret2
     exact ⟨_, zE, zNt (Kd.N_mono h1.out (fun _ hk => hk.1)), zB⟩
    have f1 : decide (4 < (b0.length : Int)) = false := decide_eq_false c9; have f2 : decide (4 < b0.length) = false := decide_eq_false (by omega); clear c9; simp only [zU] at H; obtain ⟨rfl, rfl⟩ := H; obtain ⟨j3, j4, h2⟩ := Kd.N_slice a2.out; subst h2
    go_wp2
    go_ret2
    exact ⟨_, zE, zNt (Kd.N_mono a2.out (fun _ hk => hk.1)), zB⟩
   case rest =>
    clear d3
    try clear p2
    try clear c3
    try clear c7
    try clear c8
    try clear b9
    try clear c9
    try clear f1
    try clear f2
    try clear p2
    obtain ⟨kq, HA, f4, a2, a1, HB⟩ := hcut
    cases kq with
    | zero => exact absurd HA.out (by simp [spec_ParseRange.j1])
    | succ a9 =>
     have H := HA.out; clear HA; simp only [spec_ParseRange.j1] at H; replace H := zD0 H; obtain ⟨j5, H⟩ := H; replace H := zD0 H; obtain ⟨j6, H⟩ := H; replace H := Option.bind_eq_some_iff.mp H; obtain ⟨b5, f5, H⟩ := H
     try dsimp only at H
     have d6 := zA f5; clear f5; replace H := Option.bind_eq_some_iff.mp H; obtain ⟨a8, f6, H⟩ := H
     try dsimp only at H
     have d7 := zA f6; clear f6; replace H := Option.bind_eq_some_iff.mp H; obtain ⟨⟨b6, j7⟩, f7, H⟩ := H
     try dsimp only at H
     have d8 := zA f7; clear f7; replace H := zB0 H
     rcases H with ⟨rfl, H⟩ | ⟨rfl, H⟩
     ·replace H := Option.bind_eq_some_iff.mp H; obtain ⟨j8, f8, H⟩ := H
      try dsimp only at H
      have c4 := zA f8; clear f8; replace H := zB0 H
      rcases H with ⟨rfl, H⟩ | ⟨rfl, H⟩
      ·replace H := zC0 H; obtain ⟨f9, H⟩ := H; have h3 := zA f9; clear f9; obtain ⟨g0, d9⟩ : ∃ y_ : List (List (S75)), y_ = (b0 ++ [b6]) := ⟨_, rfl⟩; replace H : (spec_ParseRange.l0 a9 g0 a5 (wrap64 (a6 + 1))) = some (r1, r2) := zY d9 H; have h4 := zA d9; clear d9; have H' := zA H; clear H; have b2 : 0 ≤ (a6 : Int) := zD; have b3 : a6 < (a5.length : Int) := zD; obtain ⟨b4, c6, g1⟩ := Kd.at_string (Kd.R_reads' a1.out).2.2 a6 b2 b3; cases c6; replace b2 := eq_true b2; replace b3 := eq_true b3
       go_wp2_with (first | ((with_reducible refine zq 79 ?_); refine zg (some 23) Tryz.func79 #[.string (rdOf ByteArray.empty a5 a6)] ?_; (with_reducible refine (spec_l4Trim.calls a9 (rdOf ByteArray.empty a5 a6) b5 _ d6.out).mono ?_); rintro e w' ⟨rfl, ⟨nd, rfl⟩⟩; refine ⟨_, rfl, ?_⟩) | ((with_reducible refine zq 78 ?_); refine zg (some 24) Tryz.func78 #[.string b5, .int .u8 32] ?_; (with_reducible refine (spec_Split.calls a9 b5 32 a8 _ d7.out).mono ?_); rintro e j9 ⟨g2, rfl, a4, hb⟩; refine ⟨_, rfl, ?_⟩; replace a2 := zA (Kd.N_elder' (zN a2.out) (Kd.R_base a4) hb); have a3 := zA (Kd.R_lower (Kd.R_new' (Kd.R_newM (M := fun k_ => (w.heap.size ≤ k_)) a4 (below_size (zB)) (fun k_ h_ => h_)) (Kd.R_lt (zR a1.out))) (below_size (zB))); replace a1 := zA (Kd.R_elder' (zR a1.out) (Kd.R_base a4) hb); replace HB := zA (below_step (zB) hb); (try clear hb a4); obtain ⟨c1, c2, h5⟩ := Kd.R_slice a3.out; subst h5) | ((with_reducible refine zq 77 ?_); refine zg (some 25) Tryz.func77 #[.slice c1 a8.length c2] ?_; (with_reducible refine (spec_l4List.calls a9 _ _ a8 b6 true _ ?s1 ?s2 d8.out).mono ?_); (case s1 => repeat (first | exact (Kd.R_reads' a3.out).2.2 | (with_reducible refine Kd.C_alloc ?_ _) | (with_reducible refine Kd.C_drewN ?_ _) | (with_reducible refine Kd.C_drew ?_))); (case s2 => exact (Kd.R_reads' a3.out).2.1); rintro e k0 ⟨e0, rfl, a4, hb⟩; refine ⟨_, rfl, ?_⟩; have a7 := zA (Kd.N_lower (Kd.N_mono (ok' := fun k_ => (w.heap.size ≤ k_) ∧ some k_ ≠ (u4 : Value).ownBlock ∧ some k_ ≠ (.slice (some b4) a5.length b1 : Value).ownBlock ∧ some k_ ≠ (.slice c1 a8.length c2 : Value).ownBlock) a4 (fun k_ hk_ => ⟨(Nat.le_trans (below_size (zB)) hk_), (Kd.fresh' (Kd.N_lt (zN a2.out)) k_ hk_), (Kd.fresh' (Kd.R_lt (zR a1.out)) k_ hk_), (Kd.fresh' (Kd.R_lt (zR a3.out)) k_ hk_)⟩)) (below_size (zB))); replace a2 := zA (Kd.N_elder' (zN a2.out) (Kd.N_base a4) hb); replace a1 := zr a1 hb; replace a3 := zr a3 hb; replace HB := zA (below_step (zB) hb); (try clear hb a4); obtain ⟨h6, h7, h8⟩ := Kd.N_slice a7.out; subst h8) | (go_at_call 80; (with_reducible refine (spec_l4Good.calls a9 _ _ b6 true _ ?s1 ?s2 c4.out).mono ?_); (case s1 => repeat (first | exact (Kd.N_reads' a7.out).2.2 | (with_reducible refine Kd.C_alloc ?_ _) | (with_reducible refine Kd.C_drewN ?_ _) | (with_reducible refine Kd.C_drew ?_))); (case s2 => exact (Kd.N_reads' a7.out).2.1); rintro e k2 ⟨rfl, hb⟩; replace a2 := zA (Kd.N_below (zN a2.out) hb); replace a1 := zr a1 hb; replace a3 := zr a3 hb; replace a7 := zA (Kd.N_below (zN a7.out) hb); replace HB := zA (below_step (zB) hb); (try clear hb)) | ((with_reducible refine gate_builtin (b := .append) (xs := #[.tmp 36, .tmp 38]) rfl ?_); at_builtin; refine Kd.N_append (Kd.slice 75 k75) (w0 := w) w.heap.size rfl (.tmp 36) (.tmp 38) 63 108 (.slice none 0 0) 24 rfl Tryz.underlying63 info108 rfl (by decide) (by omega) u4 b0 b6 [.slice h6 b6.length h7] (fun k_ => (w.heap.size ≤ k_) ∧ some k_ ≠ (.slice (some b4) a5.length b1 : Value).ownBlock ∧ some k_ ≠ (.slice c1 a8.length c2 : Value).ownBlock) (fun k_ => ((fun k_ => (w.heap.size ≤ k_) ∧ some k_ ≠ (.slice (some b4) a5.length b1 : Value).ownBlock ∧ some k_ ≠ (.slice c1 a8.length c2 : Value).ownBlock)) k_ ∧ some k_ ≠ (u4 : Value).ownBlock) rfl rfl ?aP (fun _ hk => hk) ?aF ?aO ?aB ?aS ?aL ?_; (case aP => exact (Kd.FK_slice_mk (Kd.N_reads' (Kd.N_mono (ok' := (fun k_ => ((fun k_ => (w.heap.size ≤ k_) ∧ some k_ ≠ (.slice (some b4) a5.length b1 : Value).ownBlock ∧ some k_ ≠ (.slice c1 a8.length c2 : Value).ownBlock)) k_ ∧ some k_ ≠ (u4 : Value).ownBlock)) (a7.out) (fun k_ hk => ⟨⟨hk.1, ⟨hk.2.2.1, hk.2.2.2⟩⟩, hk.2.1⟩))).2.1 (Kd.N_F (Kd.N_mono (ok' := (fun k_ => ((fun k_ => (w.heap.size ≤ k_) ∧ some k_ ≠ (.slice (some b4) a5.length b1 : Value).ownBlock ∧ some k_ ≠ (.slice c1 a8.length c2 : Value).ownBlock)) k_ ∧ some k_ ≠ (u4 : Value).ownBlock)) (a7.out) (fun k_ hk => ⟨⟨hk.1, ⟨hk.2.2.1, hk.2.2.2⟩⟩, hk.2.1⟩))))); (case aB => exact (zB)); (case aF => exact (fun k_ hk => ⟨(Nat.le_trans (below_size (zB)) hk), Kd.fresh' (Kd.R_lt (zR a1.out)) k_ hk, Kd.fresh' (Kd.R_lt (zR a3.out)) k_ hk⟩)); (case aO => exact (zNt (Kd.N_mono a2.out (fun _ hk => ⟨hk.1.1.1, ⟨hk.1.1.2, hk.1.2⟩⟩)))); (case aS => exact (below_size (zB))); (case aL => have := h3.out; omega); intro k3 k4 ho hb hg hat; rw [← h4.out] at ho; replace a1 := zA (Kd.R_over' (zR a1.out) (Kd.N_typed (zN a2.out)) (by decide) hg); replace a3 := zA (Kd.R_over' (zR a3.out) (Kd.N_typed (zN a2.out)) (by decide) hg); replace HB := zA (hb); have h9 := zA (ho); clear a2 a7; clear ho hb hg hat))
       go_roundg a9
       case measure => have := d2.out; have := f4.out; omega
       case rel => exact ⟨(g0), (wrap64 (a6 + 1)), zS, H', ⟨by have := d2.out; have := f4.out; omega⟩, ⟨zNt (Kd.N_mono h9.out (fun _ hk => ⟨hk.1, hk.2.1⟩))⟩, ⟨zR (Kd.R_mono a1.out (fun _ hk => hk.1))⟩, ⟨zB⟩⟩
      obtain ⟨i0, e1⟩ : ∃ y_ : List (List (S75)), y_ = (([] : List (List (S75)))) := ⟨_, rfl⟩; replace H : (some (i0, false)) = some (r1, r2) := zY e1 H; have g3 := zA e1; clear e1; simp only [zU] at H; obtain ⟨rfl, rfl⟩ := H; have b2 : 0 ≤ (a6 : Int) := zD; have b3 : a6 < (a5.length : Int) := zD; obtain ⟨b4, c6, g1⟩ := Kd.at_string (Kd.R_reads' a1.out).2.2 a6 b2 b3; cases c6; replace b2 := eq_true b2; replace b3 := eq_true b3
      go_wp2_with (first | ((with_reducible refine zq 79 ?_); refine zg (some 23) Tryz.func79 #[.string (rdOf ByteArray.empty a5 a6)] ?_; (with_reducible refine (spec_l4Trim.calls a9 (rdOf ByteArray.empty a5 a6) b5 _ d6.out).mono ?_); rintro e w' ⟨rfl, ⟨nd, rfl⟩⟩; refine ⟨_, rfl, ?_⟩) | ((with_reducible refine zq 78 ?_); refine zg (some 24) Tryz.func78 #[.string b5, .int .u8 32] ?_; (with_reducible refine (spec_Split.calls a9 b5 32 a8 _ d7.out).mono ?_); rintro e k5 ⟨g2, rfl, a4, hb⟩; refine ⟨_, rfl, ?_⟩; replace a2 := zA (Kd.N_elder' (zN a2.out) (Kd.R_base a4) hb); have a3 := zA (Kd.R_lower (Kd.R_new' (Kd.R_newM (M := fun k_ => (w.heap.size ≤ k_)) a4 (below_size (zB)) (fun k_ h_ => h_)) (Kd.R_lt (zR a1.out))) (below_size (zB))); replace a1 := zA (Kd.R_elder' (zR a1.out) (Kd.R_base a4) hb); replace HB := zA (below_step (zB) hb); (try clear hb a4); obtain ⟨e2, e3, i1⟩ := Kd.R_slice a3.out; subst i1) | ((with_reducible refine zq 77 ?_); refine zg (some 25) Tryz.func77 #[.slice e2 a8.length e3] ?_; (with_reducible refine (spec_l4List.calls a9 _ _ a8 b6 true _ ?s1 ?s2 d8.out).mono ?_); (case s1 => repeat (first | exact (Kd.R_reads' a3.out).2.2 | (with_reducible refine Kd.C_alloc ?_ _) | (with_reducible refine Kd.C_drewN ?_ _) | (with_reducible refine Kd.C_drew ?_))); (case s2 => exact (Kd.R_reads' a3.out).2.1); rintro e k6 ⟨e0, rfl, a4, hb⟩; refine ⟨_, rfl, ?_⟩; have a7 := zA (Kd.N_lower (Kd.N_mono (ok' := fun k_ => (w.heap.size ≤ k_) ∧ some k_ ≠ (u4 : Value).ownBlock ∧ some k_ ≠ (.slice (some b4) a5.length b1 : Value).ownBlock ∧ some k_ ≠ (.slice e2 a8.length e3 : Value).ownBlock) a4 (fun k_ hk_ => ⟨(Nat.le_trans (below_size (zB)) hk_), (Kd.fresh' (Kd.N_lt (zN a2.out)) k_ hk_), (Kd.fresh' (Kd.R_lt (zR a1.out)) k_ hk_), (Kd.fresh' (Kd.R_lt (zR a3.out)) k_ hk_)⟩)) (below_size (zB))); replace a2 := zA (Kd.N_elder' (zN a2.out) (Kd.N_base a4) hb); replace a1 := zr a1 hb; replace a3 := zr a3 hb; replace HB := zA (below_step (zB) hb); (try clear hb a4); obtain ⟨i2, i3, i4⟩ := Kd.N_slice a7.out; subst i4) | (go_at_call 80; (with_reducible refine (spec_l4Good.calls a9 _ _ b6 false _ ?s1 ?s2 c4.out).mono ?_); (case s1 => repeat (first | exact (Kd.N_reads' a7.out).2.2 | (with_reducible refine Kd.C_alloc ?_ _) | (with_reducible refine Kd.C_drewN ?_ _) | (with_reducible refine Kd.C_drew ?_))); (case s2 => exact (Kd.N_reads' a7.out).2.1); rintro e k7 ⟨rfl, hb⟩; replace a2 := zA (Kd.N_below (zN a2.out) hb); replace a1 := zr a1 hb; replace a3 := zr a3 hb; replace a7 := zA (Kd.N_below (zN a7.out) hb); replace HB := zA (below_step (zB) hb); (try clear hb)) | ((with_reducible refine gate_dst (N := 35) rfl ?_); refine zNl (Kd.slice 75 k75) 108 35 (xs := ([] : List (List (S75)))) (inner := []) (ok := (fun k_ => (w.heap.size ≤ k_) ∧ some k_ ≠ (u4 : Value).ownBlock ∧ some k_ ≠ (.slice (some b4) a5.length b1 : Value).ownBlock ∧ some k_ ≠ (.slice e2 a8.length e3 : Value).ownBlock ∧ some k_ ≠ (.slice i2 b6.length i3 : Value).ownBlock)) ((Reps.none _ _)) (fun k_ hk => ⟨(Nat.le_trans (below_size (zB)) hk), Kd.fresh' (Kd.N_lt (zN a2.out)) k_ hk, Kd.fresh' (Kd.R_lt (zR a1.out)) k_ hk, Kd.fresh' (Kd.R_lt (zR a3.out)) k_ hk, Kd.fresh' (Kd.N_lt (zN a7.out)) k_ hk⟩) ?_; intro k8 k9 b7 hb hg_ hnew_; clear hg_ hnew_; (first | rw [← g3.out] at b7 | (simp only [Int.reduceToNat] at b7; rw [← g3.out] at b7)); replace a2 := zA (Kd.N_elder' (zN a2.out) (Kd.N_base b7) hb); replace a1 := zr a1 hb; replace a3 := zr a3 hb; replace a7 := zA (Kd.N_elder' (zN a7.out) (Kd.N_base b7) hb); have i5 := zA (Kd.N_lower b7 (below_size (zB))); replace HB := zA (below_step (zB) hb); clear hb b7))
      go_ret2
      exact ⟨_, zE, zNt (Kd.N_mono i5.out (fun _ hk => hk.1)), zB⟩
     obtain ⟨i6, e4⟩ : ∃ y_ : List (List (S75)), y_ = (([] : List (List (S75)))) := ⟨_, rfl⟩; replace H : (some (i6, false)) = some (r1, r2) := zY e4 H; have g4 := zA e4; clear e4; simp only [zU] at H; obtain ⟨rfl, rfl⟩ := H; have b2 : 0 ≤ (a6 : Int) := zD; have b3 : a6 < (a5.length : Int) := zD; obtain ⟨b4, c6, g1⟩ := Kd.at_string (Kd.R_reads' a1.out).2.2 a6 b2 b3; cases c6; replace b2 := eq_true b2; replace b3 := eq_true b3
     go_wp2_with (first | ((with_reducible refine zq 79 ?_); refine zg (some 23) Tryz.func79 #[.string (rdOf ByteArray.empty a5 a6)] ?_; (with_reducible refine (spec_l4Trim.calls a9 (rdOf ByteArray.empty a5 a6) b5 _ d6.out).mono ?_); rintro e w' ⟨rfl, ⟨nd, rfl⟩⟩; refine ⟨_, rfl, ?_⟩) | ((with_reducible refine zq 78 ?_); refine zg (some 24) Tryz.func78 #[.string b5, .int .u8 32] ?_; (with_reducible refine (spec_Split.calls a9 b5 32 a8 _ d7.out).mono ?_); rintro e l1 ⟨g2, rfl, a4, hb⟩; refine ⟨_, rfl, ?_⟩; replace a2 := zA (Kd.N_elder' (zN a2.out) (Kd.R_base a4) hb); have a3 := zA (Kd.R_lower (Kd.R_new' (Kd.R_newM (M := fun k_ => (w.heap.size ≤ k_)) a4 (below_size (zB)) (fun k_ h_ => h_)) (Kd.R_lt (zR a1.out))) (below_size (zB))); replace a1 := zA (Kd.R_elder' (zR a1.out) (Kd.R_base a4) hb); replace HB := zA (below_step (zB) hb); (try clear hb a4); obtain ⟨e5, e6, i7⟩ := Kd.R_slice a3.out; subst i7) | ((with_reducible refine zq 77 ?_); refine zg (some 25) Tryz.func77 #[.slice e5 a8.length e6] ?_; (with_reducible refine (spec_l4List.calls a9 _ _ a8 b6 false _ ?s1 ?s2 d8.out).mono ?_); (case s1 => repeat (first | exact (Kd.R_reads' a3.out).2.2 | (with_reducible refine Kd.C_alloc ?_ _) | (with_reducible refine Kd.C_drewN ?_ _) | (with_reducible refine Kd.C_drew ?_))); (case s2 => exact (Kd.R_reads' a3.out).2.1); rintro e l2 ⟨e0, rfl, a4, hb⟩; refine ⟨_, rfl, ?_⟩; have a7 := zA (Kd.N_lower (Kd.N_mono (ok' := fun k_ => (w.heap.size ≤ k_) ∧ some k_ ≠ (u4 : Value).ownBlock ∧ some k_ ≠ (.slice (some b4) a5.length b1 : Value).ownBlock ∧ some k_ ≠ (.slice e5 a8.length e6 : Value).ownBlock) a4 (fun k_ hk_ => ⟨(Nat.le_trans (below_size (zB)) hk_), (Kd.fresh' (Kd.N_lt (zN a2.out)) k_ hk_), (Kd.fresh' (Kd.R_lt (zR a1.out)) k_ hk_), (Kd.fresh' (Kd.R_lt (zR a3.out)) k_ hk_)⟩)) (below_size (zB))); replace a2 := zA (Kd.N_elder' (zN a2.out) (Kd.N_base a4) hb); replace a1 := zr a1 hb; replace a3 := zr a3 hb; replace HB := zA (below_step (zB) hb); (try clear hb a4)) | ((with_reducible refine gate_dst (N := 35) rfl ?_); refine zNl (Kd.slice 75 k75) 108 35 (xs := ([] : List (List (S75)))) (inner := []) (ok := (fun k_ => (w.heap.size ≤ k_) ∧ some k_ ≠ (u4 : Value).ownBlock ∧ some k_ ≠ (.slice (some b4) a5.length b1 : Value).ownBlock ∧ some k_ ≠ (.slice e5 a8.length e6 : Value).ownBlock ∧ some k_ ≠ (e0 : Value).ownBlock)) ((Reps.none _ _)) (fun k_ hk => ⟨(Nat.le_trans (below_size (zB)) hk), Kd.fresh' (Kd.N_lt (zN a2.out)) k_ hk, Kd.fresh' (Kd.R_lt (zR a1.out)) k_ hk, Kd.fresh' (Kd.R_lt (zR a3.out)) k_ hk, Kd.fresh' (Kd.N_lt (zN a7.out)) k_ hk⟩) ?_; intro l3 l4 b8 hb hg_ hnew_; clear hg_ hnew_; (first | rw [← g4.out] at b8 | (simp only [Int.reduceToNat] at b8; rw [← g4.out] at b8)); replace a2 := zA (Kd.N_elder' (zN a2.out) (Kd.N_base b8) hb); replace a1 := zr a1 hb; replace a3 := zr a3 hb; replace a7 := zA (Kd.N_elder' (zN a7.out) (Kd.N_base b8) hb); have i8 := zA (Kd.N_lower b8 (below_size (zB))); replace HB := zA (below_step (zB) hb); clear hb b8))
     go_ret2
     exact ⟨_, zE, zNt (Kd.N_mono i8.out (fun _ hk => hk.1)), zB⟩
/-! ### spec_l7Need: function 109 -/
def spec_l7Need.f (k : Nat) (a1 a0 : ByteArray) : Option (Bool) := (spec_ParseRange.f k a0).bind fun a2 => ((spec_NameOk.f k a1).bind fun a3 => (if a3 = true then (if (a0.size : Int) ≤ 20 then (some a2.2) else (some false)) else (some false)))
theorem spec_l7Need.calls (k : Nat) (a2 a1 : ByteArray) (r : Bool) (w : World) (h : spec_l7Need.f k a2 a1 = some r) :
  Calls Tryz.prog 109 #[.agg #[.string a2, .string a1]] w fun e w' => e = .returned (.bool r) ∧ Below w.heap.size w w' := by
 have b5 := Tryz.underlying30
 have HB := zA (Below.refl w.heap.size w)
 unfold spec_l7Need.f at h
 have H := h
 clear h
 replace H := Option.bind_eq_some_iff.mp H
 obtain ⟨⟨a5, a6⟩, a7, H⟩ := H
 try dsimp only at H
 have A2 := zA a7
 clear a7
 replace H := Option.bind_eq_some_iff.mp H
 obtain ⟨b6, a8, H⟩ := H
 try dsimp only at H
 have A3 := zA a8
 clear a8
 replace H := zB0 H
 rcases H with ⟨rfl, H⟩ | ⟨rfl, H⟩
 ·replace H := zI1 H
  rcases H with ⟨c5, H⟩ | ⟨c5, H⟩
  ·have b3 := decide_eq_true c5; have b4 : decide (a1.size ≤ 20) = true := decide_eq_true (by omega); clear c5; obtain rfl := zm H
   go_enter Tryz.func109, Tryz.ntmps109
   go_wp2_with (first | ((with_reducible refine gate_dst (N := 1) rfl ?_); (try (refine gate_guard (by rfl) ?_; dsimp only)); refine box_event ?hg (N := 1) ?hd (cs := #[.string a2, .string a1]) (t := 30) ?hr ?_; (case hd => rfl); (case hg => rfl); (case hr => first | (go_simp; done) | (go_simp; rfl)); intro a4 hg w6 hbox hb; have a0 := zA (hbox); have a9 := zi HB hg; have b0 := zi HB hg; replace HB := zA (below_step (zB) hb); clear hb hbox hg; obtain ⟨b7, b8, b9, c0⟩ := ze2 a0.out) | ((with_reducible refine zq 31 ?_); refine zg (some 8) Tryz.func31 #[.string a1] ?_; (with_reducible refine (spec_ParseRange.calls k a1 a5 a6 _ A2.out).mono ?_); rintro e w8 ⟨b1, rfl, a3, hb⟩; refine ⟨_, rfl, ?_⟩; have b2 := zA (Kd.N_lower (Kd.N_mono (ok' := fun k_ => k_ ≠ a4) a3 (fun k_ hk_ => (Kd.freshB (zK a0.out) k_ hk_))) (below_size (zW HB.out))); replace a0 := zb a0 hb; replace HB := zh HB hb; (try clear hb a3); obtain ⟨c1, c2, c3, c4⟩ := ze2 a0.out) | ((with_reducible refine zq 53 ?_); refine zg (some 13) Tryz.func53 #[.string a2] ?_; (with_reducible refine (spec_NameOk.calls k a2 true _ A3.out).mono ?_); rintro e w' ⟨rfl, ⟨nd, rfl⟩⟩; refine ⟨_, rfl, ?_⟩))
   go_ret
   exact ⟨zE, zW HB.out⟩
  have b3 := decide_eq_false c5; have b4 : decide (a1.size ≤ 20) = false := decide_eq_false (by omega); clear c5; obtain rfl := zm H
  go_enter Tryz.func109, Tryz.ntmps109
  go_wp2_with (first | ((with_reducible refine gate_dst (N := 1) rfl ?_); (try (refine gate_guard (by rfl) ?_; dsimp only)); refine box_event ?hg (N := 1) ?hd (cs := #[.string a2, .string a1]) (t := 30) ?hr ?_; (case hd => rfl); (case hg => rfl); (case hr => first | (go_simp; done) | (go_simp; rfl)); intro a4 hg c6 hbox hb; have a0 := zA (hbox); have a9 := zi HB hg; have b0 := zi HB hg; replace HB := zA (below_step (zB) hb); clear hb hbox hg; obtain ⟨c7, c8, c9, d0⟩ := ze2 a0.out) | ((with_reducible refine zq 31 ?_); refine zg (some 8) Tryz.func31 #[.string a1] ?_; (with_reducible refine (spec_ParseRange.calls k a1 a5 a6 _ A2.out).mono ?_); rintro e d1 ⟨b1, rfl, a3, hb⟩; refine ⟨_, rfl, ?_⟩; have b2 := zA (Kd.N_lower (Kd.N_mono (ok' := fun k_ => k_ ≠ a4) a3 (fun k_ hk_ => (Kd.freshB (zK a0.out) k_ hk_))) (below_size (zW HB.out))); replace a0 := zb a0 hb; replace HB := zh HB hb; (try clear hb a3); obtain ⟨d2, d3, d4, d5⟩ := ze2 a0.out) | ((with_reducible refine zq 53 ?_); refine zg (some 13) Tryz.func53 #[.string a2] ?_; (with_reducible refine (spec_NameOk.calls k a2 true _ A3.out).mono ?_); rintro e w' ⟨rfl, ⟨nd, rfl⟩⟩; refine ⟨_, rfl, ?_⟩))
  go_ret
  exact ⟨zE, zW HB.out⟩
 obtain rfl := zm H
 go_enter Tryz.func109, Tryz.ntmps109
 go_wp2_with (first | ((with_reducible refine gate_dst (N := 1) rfl ?_); (try (refine gate_guard (by rfl) ?_; dsimp only)); refine box_event ?hg (N := 1) ?hd (cs := #[.string a2, .string a1]) (t := 30) ?hr ?_; (case hd => rfl); (case hg => rfl); (case hr => first | (go_simp; done) | (go_simp; rfl)); intro a4 hg d6 hbox hb; have a0 := zA (hbox); have a9 := zi HB hg; have b0 := zi HB hg; replace HB := zA (below_step (zB) hb); clear hb hbox hg; obtain ⟨d7, d8, d9, e0⟩ := ze2 a0.out) | ((with_reducible refine zq 31 ?_); refine zg (some 8) Tryz.func31 #[.string a1] ?_; (with_reducible refine (spec_ParseRange.calls k a1 a5 a6 _ A2.out).mono ?_); rintro e e1 ⟨b1, rfl, a3, hb⟩; refine ⟨_, rfl, ?_⟩; have b2 := zA (Kd.N_lower (Kd.N_mono (ok' := fun k_ => k_ ≠ a4) a3 (fun k_ hk_ => (Kd.freshB (zK a0.out) k_ hk_))) (below_size (zW HB.out))); replace a0 := zb a0 hb; replace HB := zh HB hb; (try clear hb a3); obtain ⟨e2, e3, e4, e5⟩ := ze2 a0.out) | ((with_reducible refine zq 53 ?_); refine zg (some 13) Tryz.func53 #[.string a2] ?_; (with_reducible refine (spec_NameOk.calls k a2 false _ A3.out).mono ?_); rintro e w' ⟨rfl, ⟨nd, rfl⟩⟩; refine ⟨_, rfl, ?_⟩))
 go_ret
 exact ⟨zE, zW HB.out⟩
/-! ### spec_l7Needs: function 56 -/
def spec_l7Needs.l0 : Nat → List (S30) → Int → Option (Bool)
 | 0, _, _ => none
 | k + 1, x0, x3 => if x3 < (x0.length : Int) then (if 0 ≤ x3 then ((spec_l7Need.f k ((rd_T30 x0 x3).f0) ((rd_T30 x0 x3).f1)).bind fun a0 => (if a0 = true then (if x3 > 0 then (if 0 ≤ (wrap64 (x3 - 1)) then (if (wrap64 (x3 - 1)) < (x0.length : Int) then (if ((Op.bytesLess (((rd_T30 x0 (wrap64 (x3 - 1))).f0).toList) (((rd_T30 x0 x3).f0).toList)) = true) then (spec_l7Needs.l0 k x0 (wrap64 (x3 + 1))) else (some false)) else (none)) else (none)) else (spec_l7Needs.l0 k x0 (wrap64 (x3 + 1)))) else (some false))) else (none)) else (some (decide ((x0.length : Int) ≤ 4)))
def spec_l7Needs.f (k : Nat) (l0 : List (S30)) : Option (Bool) := spec_l7Needs.l0 k l0 0
def spec_l7Needs.T4 : Bool × List (List Nat × List Nat) := (true, [([], []), ([], []), ([0, 1], [0, 1]), ([2], [2]), ([3], [3]), ([4], [4]), ([5, 4], [5]), ([6], [6]), ([7, 6], [6, 7]), ([8, 6, 6], [6, 8]), ([9], [9]), ([9], [9]), ([11, 9], [9, 11]), ([10, 12, 9], [9, 10, 12]), ([13, 9], [9, 13]), ([14, 9], [9, 14]), ([9], [9]), ([9], [9]), ([16, 17, 9], [9, 16, 17]), ([18, 9], [9, 18]), ([19, 9], [9, 19]), ([15, 20, 9], [9, 15, 20]), ([9, 21, 6], [6, 9, 21]), ([6, 22], [6, 22])])
def spec_l7Needs.B4 : List Nat := [0, 0, 3, 7, 15, 31, 63, 127, 255, 511, 1023, 1023, 3071, 8191, 16383, 32767, 1023, 1023, 197631, 459775, 984063, 2097151, 4194303, 8388607]
theorem spec_l7Needs.tab4 : rtab .any (opsOf Tryz.f56 4) = spec_l7Needs.T4 := by kernel_rfl
theorem spec_l7Needs.bits4 : waitsOk spec_l7Needs.T4.2 spec_l7Needs.B4 = true := by kernel_rfl
theorem spec_l7Needs.calls (k : Nat) (A0 : Option Addr) (c0 : Nat) (l0 : List (S30)) (r : Bool) (w : World) (c8 : Kd.C k30 w A0 l0.length l0) (c9 : l0.length ≤ c0) (h : spec_l7Needs.f k l0 = some r) :
  Calls Tryz.prog 56 #[.slice A0 l0.length c0] w fun e w' => e = .returned (.bool r) ∧ Below w.heap.size w w' := by
 have d8 := Tryz.underlying30
 have b1 := zA c8
 have d9 := zA c9
 clear c8 c9
 have HB := zA (Below.refl w.heap.size w)
 unfold spec_l7Needs.f at h
 have H := h
 clear h
 have H' := zA H
 clear H
 go_enter Tryz.func56, Tryz.ntmps56
 go_wp2
 go_loopg [3] k (fun kq v3 w' => ∃ (a0 : Int), v3 = .int .i64 a0 ∧ Aside0 (spec_l7Needs.l0 kq l0 a0 = some r) ∧ Aside0 (kq ≤ k) ∧ Aside0 (Below w.heap.size w w'))
 case atStart => exact ⟨(0), zS, H', ⟨Nat.le_refl _⟩, ⟨zB⟩⟩
 case round =>
  clear H'; obtain ⟨a0, rfl, HA, b9, HB⟩ := hrel
  cases gk with
  | zero => exact absurd HA.out (by simp [spec_l7Needs.l0])
  | succ k1 =>
   have H := HA.out; clear HA; simp only [spec_l7Needs.l0] at H; replace H := zI0 H
   rcases H with ⟨d1, H⟩ | ⟨d1, H⟩
   ·replace H := zD0 H; obtain ⟨e0, H⟩ := H; replace H := Option.bind_eq_some_iff.mp H; obtain ⟨e1, d0, H⟩ := H
    try dsimp only at H
    have A4 := zA d0; clear d0; replace H := zB0 H
    rcases H with ⟨rfl, H⟩ | ⟨rfl, H⟩
    ·replace H := zI1 H
     rcases H with ⟨c6, H⟩ | ⟨c6, H⟩
     ·have d2 : decide (0 < a0) = true := decide_eq_true c6; clear c6; obtain ⟨a2, b7⟩ : ∃ j_ : Int, (wrap64 (a0 - 1)) = j_ := ⟨_, rfl⟩
      replace H : (if 0 ≤ (a2) then (if (a2) < (l0.length : Int) then (if ((Op.bytesLess (((rd_T30 l0 (a2)).f0).toList) (((rd_T30 l0 a0).f0).toList)) = true) then (spec_l7Needs.l0 k1 l0 (wrap64 (a0 + 1))) else (some false)) else (none)) else (none)) = some r := by first | (rw [b7] at H; exact H) | (simp only [b7] at H ⊢; exact H)
      (try rw [b7] at A4)
      have hji7w : (IntKind.i64.wrap (a0 - 1)) = a2 := (i64_w _).trans b7; replace H := zD0 H; obtain ⟨e2, H⟩ := H; replace H := zD0 H; obtain ⟨e3, H⟩ := H; replace H := zI1 H
      rcases H with ⟨b8, H⟩ | ⟨b8, H⟩
      ·have d3 : (Op.bytesLess (((rd_T30 l0 (a2)).f0).toList) (((rd_T30 l0 a0).f0).toList)) = true := b8; clear b8; have H' := zA H; clear H
       try go_wp2
       replace HB := zA (below_drew1 HB.out); have a5 : 0 ≤ (a0 : Int) := zD; have a6 : a0 < (l0.length : Int) := zD; obtain ⟨a1, b2, a3, a4⟩ := at_T30 b1.out a0 a5 a6; have c1 := a4; have c2 := a3; cases b2; replace a3 := zx HB a3; replace a4 := zx HB a4; replace a5 := eq_true a5; replace a6 := eq_true a6; have b3 : 0 ≤ ((a2) : Int) := zD; have b4 : (a2) < (l0.length : Int) := zD; obtain ⟨c3, c4, a7, a8⟩ := at_T30 b1.out (a2) b3 b4; have d4 := a8; have d5 := a7; obtain rfl : a1 = c3 := (by injection c4); replace a7 := zx HB a7; replace a8 := zx HB a8; replace b3 := eq_true b3; replace b4 := eq_true b4; have b5 : 0 ≤ (a0 : Int) := zD; have b6 : a0 < (l0.length : Int) := zD; obtain ⟨c5, c7, a9, b0⟩ := at_T30 b1.out a0 b5 b6; have d6 := b0; have d7 := a9; obtain rfl : a1 = c5 := (by injection c7); replace a9 := zx HB a9; replace b0 := zx HB b0; replace b5 := eq_true b5; replace b6 := eq_true b6
       refine start_ (n := 24) (S := fun w' => w'.cell? (a1.add ((a0).toNat * 2)) = some (.string ((rd_T30 l0 a0).f0)) ∧ w'.cell? ⟨(a1.add ((a0).toNat * 2)).block, (a1.add ((a0).toNat * 2)).off + 1, none⟩ = some (.string ((rd_T30 l0 a0).f1)) ∧ w'.cell? (a1.add (((a2)).toNat * 2)) = some (.string ((rd_T30 l0 (a2)).f0)) ∧ w'.cell? ⟨(a1.add (((a2)).toNat * 2)).block, (a1.add (((a2)).toNat * 2)).off + 1, none⟩ = some (.string ((rd_T30 l0 (a2)).f1)) ∧ w'.cell? (a1.add ((a0).toNat * 2)) = some (.string ((rd_T30 l0 a0).f0)) ∧ w'.cell? ⟨(a1.add ((a0).toNat * 2)).block, (a1.add ((a0).toNat * 2)).off + 1, none⟩ = some (.string ((rd_T30 l0 a0).f1))) (ds := []) (Array.replicate 24 false) (by kernel_rfl) rfl rfl zO fun hHeld => ?_; refine with_tabW spec_l7Needs.tab4 spec_l7Needs.bits4 (fun HT_ HW_ => ?_)
       generalize wr.drew = e4 at HB a3 a4 a7 a8 a9 b0 hHeld ⊢; refine zp 0 10 ?_; refine zp 1 11 ?_; refine zp 2 12 ?_; refine zt 3 13 ?_
       refine zo 4 (some 14) fun K hK => ?_
       refine goes_ Tryz.func109 (by kernel_rfl) rfl #[.agg #[.string ((rd_T30 l0 a0).f0), .string ((rd_T30 l0 a0).f1)]] (by rfl) rfl rfl zM ?_
       with_reducible refine (spec_l7Need.calls k1 ((rd_T30 l0 a0).f0) ((rd_T30 l0 a0).f1) true _ A4.out).mono ?_
       rintro e e5 ⟨rfl, hb⟩
       refine ⟨_, rfl, ?_⟩
       replace HB := zA (below_step (zB) hb)
       (try clear hb)
       refine hK.out _ _ zO fun hHeld => ?_
       clear hK K; refine zn ?_; refine zp 5 15 ?_; refine zp 6 16 ?_; refine zp 7 17 ?_; refine zp 8 18 ?_; refine zp 9 19 ?_; refine zp 10 20 ?_; refine zp 11 21 ?_; refine zp 12 22 ?_; refine zp 13 23 ?_; refine zp 14 24 ?_; refine zp 16 26 ?_; refine zp 17 27 ?_; refine zp 18 28 ?_; refine zp 19 29 ?_; refine zt 15 25 ?_; refine zt 20 30 ?_; refine zp 21 31 ?_; refine zp 22 32 ?_; refine zp 23 33 ?_
       refine done_ (done_of HT_.out (by kernel_rfl)) ?_
       try go_wp2
       go_roundg k1
       case measure => have := b9.out; omega
       case rel => exact ⟨(wrap64 (a0 + 1)), zS, H', ⟨by have := b9.out; omega⟩, ⟨zB⟩⟩
      have d3 : (Op.bytesLess (((rd_T30 l0 (a2)).f0).toList) (((rd_T30 l0 a0).f0).toList)) = false := by simpa using b8
      clear b8; obtain rfl := zm H
      try go_wp2
      replace HB := zA (below_drew1 HB.out); have a5 : 0 ≤ (a0 : Int) := zD; have a6 : a0 < (l0.length : Int) := zD; obtain ⟨a1, b2, a3, a4⟩ := at_T30 b1.out a0 a5 a6; have c1 := a4; have c2 := a3; cases b2; replace a3 := zx HB a3; replace a4 := zx HB a4; replace a5 := eq_true a5; replace a6 := eq_true a6; have b3 : 0 ≤ ((a2) : Int) := zD; have b4 : (a2) < (l0.length : Int) := zD; obtain ⟨c3, c4, a7, a8⟩ := at_T30 b1.out (a2) b3 b4; have d4 := a8; have d5 := a7; obtain rfl : a1 = c3 := (by injection c4); replace a7 := zx HB a7; replace a8 := zx HB a8; replace b3 := eq_true b3; replace b4 := eq_true b4; have b5 : 0 ≤ (a0 : Int) := zD; have b6 : a0 < (l0.length : Int) := zD; obtain ⟨c5, c7, a9, b0⟩ := at_T30 b1.out a0 b5 b6; have d6 := b0; have d7 := a9; obtain rfl : a1 = c5 := (by injection c7); replace a9 := zx HB a9; replace b0 := zx HB b0; replace b5 := eq_true b5; replace b6 := eq_true b6
      refine start_ (n := 24) (S := fun w' => w'.cell? (a1.add ((a0).toNat * 2)) = some (.string ((rd_T30 l0 a0).f0)) ∧ w'.cell? ⟨(a1.add ((a0).toNat * 2)).block, (a1.add ((a0).toNat * 2)).off + 1, none⟩ = some (.string ((rd_T30 l0 a0).f1)) ∧ w'.cell? (a1.add (((a2)).toNat * 2)) = some (.string ((rd_T30 l0 (a2)).f0)) ∧ w'.cell? ⟨(a1.add (((a2)).toNat * 2)).block, (a1.add (((a2)).toNat * 2)).off + 1, none⟩ = some (.string ((rd_T30 l0 (a2)).f1)) ∧ w'.cell? (a1.add ((a0).toNat * 2)) = some (.string ((rd_T30 l0 a0).f0)) ∧ w'.cell? ⟨(a1.add ((a0).toNat * 2)).block, (a1.add ((a0).toNat * 2)).off + 1, none⟩ = some (.string ((rd_T30 l0 a0).f1))) (ds := []) (Array.replicate 24 false) (by kernel_rfl) rfl rfl zO fun hHeld => ?_; refine with_tabW spec_l7Needs.tab4 spec_l7Needs.bits4 (fun HT_ HW_ => ?_)
      generalize wr.drew = e6 at HB a3 a4 a7 a8 a9 b0 hHeld ⊢; refine zp 0 10 ?_; refine zp 1 11 ?_; refine zp 2 12 ?_; refine zt 3 13 ?_
      refine zo 4 (some 14) fun K hK => ?_
      refine goes_ Tryz.func109 (by kernel_rfl) rfl #[.agg #[.string ((rd_T30 l0 a0).f0), .string ((rd_T30 l0 a0).f1)]] (by rfl) rfl rfl zM ?_
      with_reducible refine (spec_l7Need.calls k1 ((rd_T30 l0 a0).f0) ((rd_T30 l0 a0).f1) true _ A4.out).mono ?_
      rintro e e7 ⟨rfl, hb⟩
      refine ⟨_, rfl, ?_⟩
      replace HB := zA (below_step (zB) hb)
      (try clear hb)
      refine hK.out _ _ zO fun hHeld => ?_
      clear hK K; refine zn ?_; refine zp 5 15 ?_; refine zp 6 16 ?_; refine zp 7 17 ?_; refine zp 8 18 ?_; refine zp 9 19 ?_; refine zp 10 20 ?_; refine zp 11 21 ?_; refine zp 12 22 ?_; refine zp 13 23 ?_; refine zp 14 24 ?_; refine zp 16 26 ?_; refine zp 17 27 ?_; refine zp 18 28 ?_; refine zp 19 29 ?_; refine zt 15 25 ?_; refine zt 20 30 ?_; refine zp 21 31 ?_; refine zp 22 32 ?_; refine zp 23 33 ?_
      refine done_ (done_of HT_.out (by kernel_rfl)) ?_
      try go_wp2
      go_ret
      exact ⟨by first | rfl | (simp [errW_none, errW_some] <;> rfl) | (simp only [← b7]; first | rfl | (simp [errW_none, errW_some] <;> rfl)) | (simp [*, errW_none, errW_some] <;> rfl), zB⟩
     have d2 : decide (0 < a0) = false := decide_eq_false c6; clear c6; have H' := zA H; clear H
     try go_wp2
     replace HB := zA (below_drew1 HB.out); have a5 : 0 ≤ (a0 : Int) := zD; have a6 : a0 < (l0.length : Int) := zD; obtain ⟨a1, b2, a3, a4⟩ := at_T30 b1.out a0 a5 a6; have c1 := a4; have c2 := a3; cases b2; replace a3 := zx HB a3; replace a4 := zx HB a4; replace a5 := eq_true a5; replace a6 := eq_true a6
     refine start_ (n := 24) (S := fun w' => w'.cell? (a1.add ((a0).toNat * 2)) = some (.string ((rd_T30 l0 a0).f0)) ∧ w'.cell? ⟨(a1.add ((a0).toNat * 2)).block, (a1.add ((a0).toNat * 2)).off + 1, none⟩ = some (.string ((rd_T30 l0 a0).f1))) (ds := []) (Array.replicate 24 false) (by kernel_rfl) rfl rfl zO fun hHeld => ?_; refine with_tabW spec_l7Needs.tab4 spec_l7Needs.bits4 (fun HT_ HW_ => ?_)
     generalize wr.drew = e8 at HB a3 a4 hHeld ⊢; refine zp 0 10 ?_; refine zp 1 11 ?_; refine zp 2 12 ?_; refine zt 3 13 ?_
     refine zo 4 (some 14) fun K hK => ?_
     refine goes_ Tryz.func109 (by kernel_rfl) rfl #[.agg #[.string ((rd_T30 l0 a0).f0), .string ((rd_T30 l0 a0).f1)]] (by rfl) rfl rfl zM ?_
     with_reducible refine (spec_l7Need.calls k1 ((rd_T30 l0 a0).f0) ((rd_T30 l0 a0).f1) true _ A4.out).mono ?_
     rintro e e9 ⟨rfl, hb⟩
     refine ⟨_, rfl, ?_⟩
     replace HB := zA (below_step (zB) hb)
     (try clear hb)
     refine hK.out _ _ zO fun hHeld => ?_
     clear hK K; refine zn ?_; refine zp 5 15 ?_; refine zp 6 16 ?_; refine zp 7 17 ?_; refine zp 8 18 ?_; refine zp 9 19 ?_; refine zu 10 20 ?_; refine zu 11 21 ?_; refine zu 12 22 ?_; refine zu 13 23 ?_; refine zu 14 24 ?_; refine zu 15 25 ?_; refine zu 16 26 ?_; refine zu 17 27 ?_; refine zu 18 28 ?_; refine zu 19 29 ?_; refine zu 20 30 ?_; refine zu 21 31 ?_; refine zp 22 32 ?_; refine zp 23 33 ?_
     refine done_ (done_of HT_.out (by kernel_rfl)) ?_
     try go_wp2
     go_roundg k1
     case measure => have := b9.out; omega
     case rel => exact ⟨(wrap64 (a0 + 1)), zS, H', ⟨by have := b9.out; omega⟩, ⟨zB⟩⟩
    obtain rfl := zm H
    try go_wp2
    replace HB := zA (below_drew1 HB.out); have a5 : 0 ≤ (a0 : Int) := zD; have a6 : a0 < (l0.length : Int) := zD; obtain ⟨a1, b2, a3, a4⟩ := at_T30 b1.out a0 a5 a6; have c1 := a4; have c2 := a3; cases b2; replace a3 := zx HB a3; replace a4 := zx HB a4; replace a5 := eq_true a5; replace a6 := eq_true a6
    refine start_ (n := 24) (S := fun w' => w'.cell? (a1.add ((a0).toNat * 2)) = some (.string ((rd_T30 l0 a0).f0)) ∧ w'.cell? ⟨(a1.add ((a0).toNat * 2)).block, (a1.add ((a0).toNat * 2)).off + 1, none⟩ = some (.string ((rd_T30 l0 a0).f1))) (ds := []) (Array.replicate 24 false) (by kernel_rfl) rfl rfl zO fun hHeld => ?_; refine with_tabW spec_l7Needs.tab4 spec_l7Needs.bits4 (fun HT_ HW_ => ?_)
    generalize wr.drew = f2 at HB a3 a4 hHeld ⊢; refine zp 0 10 ?_; refine zp 1 11 ?_; refine zp 2 12 ?_; refine zt 3 13 ?_
    refine zo 4 (some 14) fun K hK => ?_
    refine goes_ Tryz.func109 (by kernel_rfl) rfl #[.agg #[.string ((rd_T30 l0 a0).f0), .string ((rd_T30 l0 a0).f1)]] (by rfl) rfl rfl zM ?_
    with_reducible refine (spec_l7Need.calls k1 ((rd_T30 l0 a0).f0) ((rd_T30 l0 a0).f1) false _ A4.out).mono ?_
    rintro e f3 ⟨rfl, hb⟩
    refine ⟨_, rfl, ?_⟩
    replace HB := zA (below_step (zB) hb)
    (try clear hb)
    refine hK.out _ _ zO fun hHeld => ?_
    clear hK K; refine zn ?_; refine zp 5 15 ?_; refine zp 6 16 ?_; refine zu 7 17 ?_; refine zu 8 18 ?_; refine zu 9 19 ?_; refine zu 10 20 ?_; refine zu 11 21 ?_; refine zu 12 22 ?_; refine zu 13 23 ?_; refine zu 14 24 ?_; refine zu 15 25 ?_; refine zu 16 26 ?_; refine zu 17 27 ?_; refine zu 18 28 ?_; refine zu 19 29 ?_; refine zu 20 30 ?_; refine zu 21 31 ?_; refine zu 22 32 ?_; refine zp 23 33 ?_
    refine done_ (done_of HT_.out (by kernel_rfl)) ?_
    try go_wp2
    go_ret
    exact ⟨zE, zB⟩
   obtain rfl := zm H
   go_wp2
   go_ret
   exact ⟨zE, zB⟩
/-! ### spec_PlainOk: function 110 -/
def spec_PlainOk.l0 : Nat → ByteArray → Int → Int → Option (Bool)
 | 0, _, _, _ => none
 | k + 1, x0, x1, x5 => if x5 < (x0.size : Int) then (if 0 ≤ x5 then ((spec_l1In.f (wrap64 (bt x0 x5)) 32 126).bind fun a0 => (if a0 = true then (spec_PlainOk.l0 k x0 x1 (wrap64 (x5 + 1))) else (some false))) else (none)) else (some (decide ((x0.size : Int) ≤ x1)))
def spec_PlainOk.f (k : Nat) (a0 : ByteArray) (a1 : Int) : Option (Bool) := spec_PlainOk.l0 k a0 a1 0
theorem spec_PlainOk.calls (k : Nat) (a0 : ByteArray) (a1 : Int) (r : Bool) (w : World) (h : spec_PlainOk.f k a0 a1 = some r) :
  Calls Tryz.prog 110 #[.string a0, .int .i64 a1] w fun e w' => e = .returned (.bool r) ∧ Drawn0 w w' := by
 unfold spec_PlainOk.f at h
 have H := h
 clear h
 have H' := zA H
 clear H
 go_enter Tryz.func110, Tryz.ntmps110
 go_wp2
 go_loopg [5] k (fun kq v5 w' => ∃ (a2 : Int), v5 = .int .i64 a2 ∧ Aside0 (spec_PlainOk.l0 kq a0 a1 a2 = some r) ∧ Aside0 (kq ≤ k) ∧ Drawn0 w w')
 case atStart => exact ⟨(0), zS, H', ⟨Nat.le_refl _⟩, by repeat (first | exact Drawn0.refl _ | apply Drawn0.step)⟩
 case round =>
  clear H'
  try clear c1
  try clear p2
  obtain ⟨a2, rfl, HA, a3, ⟨m1, rfl⟩⟩ := hrel
  cases gk with
  | zero => exact absurd HA.out (by simp [spec_PlainOk.l0])
  | succ k1 =>
   have H := HA.out; clear HA; simp only [spec_PlainOk.l0] at H; replace H := zI0 H
   rcases H with ⟨a5, H⟩ | ⟨a5, H⟩
   ·replace H := zD0 H; obtain ⟨a7, H⟩ := H; replace H := Option.bind_eq_some_iff.mp H; obtain ⟨a8, a4, H⟩ := H
    try dsimp only at H
    have A6 := zA a4; clear a4; replace H := zB0 H
    rcases H with ⟨rfl, H⟩ | ⟨rfl, H⟩
    ·have H' := zA H; clear H; have p5 : 0 ≤ (a2 : Int) := zD; have q5 : a2 < (a0.size : Int) := zD; have a6 := bt_at a0 a2; replace p5 := eq_true p5; replace q5 := eq_true q5
     go_wp2_with (first | ((with_reducible refine zq 104 ?_); refine zg (some 16) Tryz.func104 #[.int .i64 (wrap64 (bt a0 a2)), .int .i64 32, .int .i64 126] ?_; (with_reducible refine (spec_l1In.calls (wrap64 (bt a0 a2)) 32 126 true _ A6.out).mono ?_); rintro e w' ⟨rfl, ⟨nd, rfl⟩⟩; refine ⟨_, rfl, ?_⟩))
     go_roundg k1
     case measure => have := a3.out; omega
     case rel => exact ⟨(wrap64 (a2 + 1)), zS, H', ⟨by have := a3.out; omega⟩, by repeat (first | exact Drawn0.refl _ | apply Drawn0.step)⟩
    obtain rfl := zm H; have p5 : 0 ≤ (a2 : Int) := zD; have q5 : a2 < (a0.size : Int) := zD; have a6 := bt_at a0 a2; replace p5 := eq_true p5; replace q5 := eq_true q5
    go_wp2_with (first | ((with_reducible refine zq 104 ?_); refine zg (some 16) Tryz.func104 #[.int .i64 (wrap64 (bt a0 a2)), .int .i64 32, .int .i64 126] ?_; (with_reducible refine (spec_l1In.calls (wrap64 (bt a0 a2)) 32 126 false _ A6.out).mono ?_); rintro e w' ⟨rfl, ⟨nd, rfl⟩⟩; refine ⟨_, rfl, ?_⟩))
    go_ret
    exact ⟨by first | rfl | (simp; done) | (simp [*]; done) | (simp; rw [Bool.eq_iff_iff]; simp; done), by repeat (first | exact Drawn0.refl _ | apply Drawn0.step)⟩
   obtain rfl := zm H
   go_wp2
   go_ret
   exact ⟨by first | rfl | (simp; done) | (simp [*]; done) | (simp; rw [Bool.eq_iff_iff]; simp; done), by repeat (first | exact Drawn0.refl _ | apply Drawn0.step)⟩
/-! ### spec_l7Cmds: function 57 -/
mutual
def spec_l7Cmds.l0 : Nat → List (S93) → Int → Option (Bool)
 | 0, _, _ => none
 | k + 1, x0, x3 => if x3 < (x0.length : Int) then (spec_l7Cmds.j1 k x0 x3) else (some (decide ((x0.length : Int) ≤ 4)))
def spec_l7Cmds.j1 : Nat → List (S93) → Int → Option (Bool)
 | 0, _, _ => none
 | k + 1, x0, x3 => if 0 ≤ x3 then (if x3 < (x0.length : Int) then ((spec_NameOk.f k ((rd_T93 x0 x3).f0)).bind fun a0 => (if a0 = true then ((spec_l1In.f (((rd_T93 x0 x3).f1).length : Int) 1 5).bind fun a1 => (if a1 = true then (if x3 > 0 then (if 0 ≤ (wrap64 (x3 - 1)) then (if (wrap64 (x3 - 1)) < (x0.length : Int) then (spec_l7Cmds.j2 k x0 x3 (!(Op.bytesLess (((rd_T93 x0 (wrap64 (x3 - 1))).f0).toList) (((rd_T93 x0 x3).f0).toList)))) else (none)) else (none)) else (spec_l7Cmds.j2 k x0 x3 false)) else (spec_l7Cmds.j2 k x0 x3 true))) else (spec_l7Cmds.j2 k x0 x3 true))) else (none)) else (none)
def spec_l7Cmds.j2 : Nat → List (S93) → Int → Bool → Option (Bool)
 | 0, _, _, _ => none
 | k + 1, x0, x3, a2 => if a2 = true then (some false) else (spec_l7Cmds.j3 k x0 x3)
def spec_l7Cmds.j3 : Nat → List (S93) → Int → Option (Bool)
 | 0, _, _ => none
 | k + 1, x0, x3 => spec_l7Cmds.l1 k x0 x3 0
def spec_l7Cmds.l1 : Nat → List (S93) → Int → Int → Option (Bool)
 | 0, _, _, _ => none
 | k + 1, x0, x3, x4 => if 0 ≤ x3 then (if x3 < (x0.length : Int) then (if x4 < (((rd_T93 x0 x3).f1).length : Int) then (if 0 ≤ x4 then ((spec_PlainOk.f k (rdOf ByteArray.empty ((rd_T93 x0 x3).f1) x4) 40).bind fun a3 => (if a3 = true then (spec_l7Cmds.l1 k x0 x3 (wrap64 (x4 + 1))) else (some false))) else (none)) else (spec_l7Cmds.l0 k x0 (wrap64 (x3 + 1)))) else (none)) else (none)
end
def spec_l7Cmds.f (k : Nat) (l0 : List (S93)) : Option (Bool) := spec_l7Cmds.l0 k l0 0
def spec_l7Cmds.T4 : Bool × List (List Nat × List Nat) := (true, [([], []), ([], []), ([0, 1], [0, 1]), ([2], [2]), ([3], [3]), ([4], [4]), ([5], [5]), ([6, 5], [6]), ([7], [7]), ([7], [7]), ([8, 9, 7], [7, 8, 9]), ([10, 7], [7, 10]), ([11, 7], [7, 11]), ([12, 7], [7, 12]), ([13, 7, 7], [7, 13]), ([14, 7], [7, 14]), ([7, 15], [7, 15]), ([16, 14], [16]), ([17], [17]), ([18, 17], [17, 18]), ([19, 17, 17], [17, 19]), ([20], [20]), ([20], [20]), ([22, 20], [20, 22]), ([21, 23, 20], [20, 21, 23]), ([24, 20], [20, 24]), ([25, 20], [20, 25]), ([20], [20]), ([20], [20]), ([27, 28, 20], [20, 27, 28]), ([29, 20], [20, 29]), ([30, 20], [20, 30]), ([26, 31, 20], [20, 26, 31]), ([20, 32, 17], [17, 20, 32]), ([17, 33], [17, 33])])
def spec_l7Cmds.B4 : List Nat := [0, 0, 3, 7, 15, 31, 63, 127, 255, 255, 1023, 2047, 4095, 8191, 16383, 32767, 65535, 131071, 262143, 524287, 1048575, 2097151, 2097151, 6291455, 16777215, 33554431, 67108863, 2097151, 2097151, 404750335, 941621247, 2015363071, 4294967295, 8589934591, 17179869183]
theorem spec_l7Cmds.tab4 : rtab .any (opsOf Tryz.f57 4) = spec_l7Cmds.T4 := by kernel_rfl
theorem spec_l7Cmds.bits4 : waitsOk spec_l7Cmds.T4.2 spec_l7Cmds.B4 = true := by kernel_rfl
theorem spec_l7Cmds.calls (k : Nat) (A0 : Option Addr) (c0 : Nat) (l0 : List (S93)) (r : Bool) (w : World) (h9 : Kd.C k93 w A0 l0.length l0) (i0 : l0.length ≤ c0) (h : spec_l7Cmds.f k l0 = some r) :
  Calls Tryz.prog 57 #[.slice A0 l0.length c0] w fun e w' => e = .returned (.bool r) ∧ Below w.heap.size w w' := by
 have a8 := zA h9
 have m3 := zA i0
 clear h9 i0
 have HB := zA (Below.refl w.heap.size w)
 unfold spec_l7Cmds.f at h
 have H := h
 clear h
 have H' := zA H
 clear H
 go_enter Tryz.func57, Tryz.ntmps57
 go_wp2
 go_loopg [3] k (fun kq v3 w' => ∃ (a0 : Int), v3 = .int .i64 a0 ∧ Aside0 (spec_l7Cmds.l0 kq l0 a0 = some r) ∧ Aside0 (kq ≤ k) ∧ Aside0 (Below w.heap.size w w'))
 case atStart => exact ⟨(0), zS, H', ⟨Nat.le_refl _⟩, ⟨zB⟩⟩
 case round =>
  clear H'; obtain ⟨a0, rfl, HA, b9, HB⟩ := hrel
  cases gk with
  | zero => exact absurd HA.out (by simp [spec_l7Cmds.l0])
  | succ k1 =>
   have H := HA.out; clear HA; simp only [spec_l7Cmds.l0] at H; have g4 := zA H; clear H
   go_upto_if 8 with (fail)
   go_cut [] (fun wc => ∃ (kq : Nat), Aside0 (spec_l7Cmds.j1 kq l0 a0 = some r) ∧ Aside0 (kq ≤ k1) ∧ Aside0 (Below w.heap.size w wc))
   case first =>
    have H := g4.out; clear g4; replace H := zI0 H
    rcases H with ⟨e2, H⟩ | ⟨e2, H⟩
    ·(first | rw [e2] | (simp only [i64_w, i32_w]; rw [e2]) | skip)
     have H' := zA H; clear H
     go_wp2
     go_meet
     case rel => exact ⟨_, (by first | exact H' | (subst_vars; exact H')), ⟨by have := b9.out; first | omega | exact Nat.le_refl _⟩, ⟨zB⟩⟩
    (first | rw [e2] | (simp only [i64_w, i32_w]; rw [e2]) | skip)
    obtain rfl := zm H
    go_wp2
    go_ret
    exact ⟨zE, zB⟩
   case rest =>
    clear g4
    try clear p2
    try clear c3
    try clear e2
    obtain ⟨kq, HA, c9, HB⟩ := hcut
    cases kq with
    | zero => exact absurd HA.out (by simp [spec_l7Cmds.j1])
    | succ e3 =>
     have H := HA.out; clear HA; simp only [spec_l7Cmds.j1] at H; have g5 := zA H; clear H
     go_upto_region 4 with (fail)
     go_cut [45] (fun k4 wc => ∃ (kq : Nat) (g6 : Bool), k4 = .bool g6 ∧ Aside0 (spec_l7Cmds.j2 kq l0 a0 g6 = some r) ∧ Aside0 (kq ≤ e3) ∧ Aside0 (Below w.heap.size w wc))
     case first =>
      have H := g5.out; clear g5; replace H := zD0 H; obtain ⟨i1, H⟩ := H
      (first | rw [i1] | (simp only [i64_w, i32_w]; rw [i1]) | skip)
      replace H := zD0 H; obtain ⟨m4, H⟩ := H; replace H := Option.bind_eq_some_iff.mp H; obtain ⟨m5, i2, H⟩ := H
      try dsimp only at H
      have A7 := zA i2; clear i2; replace H := zB0 H
      rcases H with ⟨rfl, H⟩ | ⟨rfl, H⟩
      ·replace H := Option.bind_eq_some_iff.mp H; obtain ⟨m6, i3, H⟩ := H
       try dsimp only at H
       have A9 := zA i3; clear i3; replace H := zB0 H
       rcases H with ⟨rfl, H⟩ | ⟨rfl, H⟩
       ·replace H := zI1 H
        rcases H with ⟨e5, H⟩ | ⟨e5, H⟩
        ·have k6 : decide (0 < a0) = true := decide_eq_true e5; clear e5; obtain ⟨b2, e4⟩ : ∃ j_ : Int, (wrap64 (a0 - 1)) = j_ := ⟨_, rfl⟩
         replace H : (if 0 ≤ (b2) then (if (b2) < (l0.length : Int) then (spec_l7Cmds.j2 e3 l0 a0 (!(Op.bytesLess (((rd_T93 l0 (b2)).f0).toList) (((rd_T93 l0 a0).f0).toList)))) else (none)) else (none)) = some r := by first | (rw [e4] at H; exact H) | (simp only [e4] at H ⊢; exact H)
         (try rw [e4] at A7)
         (try rw [e4] at A9)
         have hji12w : (IntKind.i64.wrap (a0 - 1)) = b2 := (i64_w _).trans e4; replace H := zD0 H; obtain ⟨m7, H⟩ := H; replace H := zD0 H; obtain ⟨m8, H⟩ := H; have H' := zA H; clear H
         try go_wp2
         replace HB := zA (below_drew1 HB.out); have a5 : 0 ≤ (a0 : Int) := zD; have a6 : a0 < (l0.length : Int) := zD; obtain ⟨a1, b3, b4, d5, a3, a2, b5, b6⟩ := at_T93 a8.out a0 a5 a6; have g7 := a2; have g8 := a3; cases d5; replace a3 := zx HB a3; replace a2 := zx HB a2; have d6 := zA b6; have g9 := zA b5; clear b6 b5; replace a5 := eq_true a5; replace a6 := eq_true a6; have a9 : 0 ≤ (a0 : Int) := zD; have b0 : a0 < (l0.length : Int) := zD; obtain ⟨e6, i4, i5, e7, a7, a4, d0, d1⟩ := at_T93 a8.out a0 a9 b0; have i6 := a4; have i7 := a7; obtain rfl : a1 = e6 := (by injection e7); replace a7 := zx HB a7; replace a4 := zx HB a4; have e8 := zA d1; have i8 := zA d0; clear d1 d0; replace a9 := eq_true a9; replace b0 := eq_true b0; have ea_ := Option.some.inj (a2.symm.trans a4); injection ea_ with ea_ en_ ec_; subst ea_; subst ec_; clear en_; have h0 : 0 ≤ ((b2) : Int) := zD; have h1 : (b2) < (l0.length : Int) := zD; obtain ⟨k7, k8, k9, l2, f8, f9, i9, j0⟩ := at_T93 a8.out (b2) h0 h1; have m9 := f9; have n0 := f8; obtain rfl : a1 = k7 := (by injection l2); replace f8 := zx HB f8; replace f9 := zx HB f9; have l3 := zA j0; have n1 := zA i9; clear j0 i9; replace h0 := eq_true h0; replace h1 := eq_true h1; have h2 : 0 ≤ (a0 : Int) := zD; have h3 : a0 < (l0.length : Int) := zD; obtain ⟨l4, n2, n3, l5, g0, e9, j4, j5⟩ := at_T93 a8.out a0 h2 h3; have n4 := e9; have n5 := g0; obtain rfl : a1 = l4 := (by injection l5); replace g0 := zx HB g0; replace e9 := zx HB e9; have l6 := zA j5; have n6 := zA j4; clear j5 j4; replace h2 := eq_true h2; replace h3 := eq_true h3; have ea_ := Option.some.inj (a2.symm.trans e9); injection ea_ with ea_ en_ ec_; subst ea_; subst ec_; clear en_
         refine start_ (n := 35) (S := fun w' => w'.cell? (a1.add ((a0).toNat * 2)) = some (.string ((rd_T93 l0 a0).f0)) ∧ w'.cell? ⟨(a1.add ((a0).toNat * 2)).block, (a1.add ((a0).toNat * 2)).off + 1, none⟩ = some (.slice b3 ((rd_T93 l0 a0).f1).length b4) ∧ w'.cell? (a1.add ((a0).toNat * 2)) = some (.string ((rd_T93 l0 a0).f0)) ∧ w'.cell? ⟨(a1.add ((a0).toNat * 2)).block, (a1.add ((a0).toNat * 2)).off + 1, none⟩ = some (.slice b3 ((rd_T93 l0 a0).f1).length b4) ∧ w'.cell? (a1.add (((b2)).toNat * 2)) = some (.string ((rd_T93 l0 (b2)).f0)) ∧ w'.cell? ⟨(a1.add (((b2)).toNat * 2)).block, (a1.add (((b2)).toNat * 2)).off + 1, none⟩ = some (.slice k8 ((rd_T93 l0 (b2)).f1).length k9) ∧ w'.cell? (a1.add ((a0).toNat * 2)) = some (.string ((rd_T93 l0 a0).f0)) ∧ w'.cell? ⟨(a1.add ((a0).toNat * 2)).block, (a1.add ((a0).toNat * 2)).off + 1, none⟩ = some (.slice b3 ((rd_T93 l0 a0).f1).length b4)) (ds := []) (Array.replicate 35 false) (by kernel_rfl) rfl rfl zO fun hHeld => ?_; refine with_tabW spec_l7Cmds.tab4 spec_l7Cmds.bits4 (fun HT_ HW_ => ?_)
         generalize wc.drew = n7 at HB d6 e8 l3 l6 a3 a2 a7 a4 f8 f9 g0 e9 hHeld ⊢; refine zp 0 11 ?_; refine zp 1 12 ?_; refine zp 2 13 ?_; refine zp 3 14 ?_; refine zt 4 15 ?_
         refine zo 5 (some 16) fun K hK => ?_
         refine goes_ Tryz.func53 (by kernel_rfl) rfl #[.string ((rd_T93 l0 a0).f0)] (by rfl) rfl rfl zM ?_
         with_reducible refine (spec_NameOk.calls e3 ((rd_T93 l0 a0).f0) true _ A7.out).mono ?_
         rintro e w' ⟨rfl, ⟨nd, rfl⟩⟩
         refine ⟨_, rfl, ?_⟩
         refine hK.out _ _ zO fun hHeld => ?_
         clear hK K; refine zn ?_; refine zp 6 17 ?_; refine zp 7 18 ?_; refine zp 8 19 ?_; refine zp 9 20 ?_; refine zp 10 21 ?_; refine zp 11 22 ?_; refine zt 12 23 ?_; refine zp 13 24 ?_
         refine zo 14 (some 25) fun K hK => ?_
         refine goes_ Tryz.func104 (by kernel_rfl) rfl #[.int .i64 (((rd_T93 l0 a0).f1).length : Int), .int .i64 1, .int .i64 5] (by rfl) rfl rfl zM ?_
         with_reducible refine (spec_l1In.calls (((rd_T93 l0 a0).f1).length : Int) 1 5 true _ A9.out).mono ?_
         rintro e w' ⟨rfl, ⟨nd, rfl⟩⟩
         refine ⟨_, rfl, ?_⟩
         refine hK.out _ _ zO fun hHeld => ?_
         clear hK K; refine zn ?_; refine zp 15 26 ?_; refine zp 16 27 ?_; refine zp 17 28 ?_; refine zp 18 29 ?_; refine zp 19 30 ?_; refine zp 20 31 ?_; refine zp 21 32 ?_; refine zp 22 33 ?_; refine zp 23 34 ?_; refine zp 24 35 ?_; refine zp 25 36 ?_; refine zp 27 38 ?_; refine zp 28 39 ?_; refine zp 29 40 ?_; refine zp 30 41 ?_; refine zt 26 37 ?_; refine zt 31 42 ?_; refine zp 32 43 ?_; refine zp 33 44 ?_; refine zp 34 45 ?_
         refine done_ (done_of HT_.out (by kernel_rfl)) ?_
         try go_wp2
         go_meet
         case rel => exact ⟨_, (!(Op.bytesLess (((rd_T93 l0 (b2)).f0).toList) (((rd_T93 l0 a0).f0).toList))), (by first | rfl | (simp; done) | (simp only [← e4] <;> (first | rfl | simp)) | (simp [*]; done)), (by first | exact H' | (subst_vars; exact H')), ⟨by have := b9.out; have := c9.out; first | omega | exact Nat.le_refl _⟩, ⟨zB⟩⟩
        have k6 : decide (0 < a0) = false := decide_eq_false e5; clear e5; have H' := zA H; clear H
        try go_wp2
        replace HB := zA (below_drew1 HB.out); have a5 : 0 ≤ (a0 : Int) := zD; have a6 : a0 < (l0.length : Int) := zD; obtain ⟨a1, b3, b4, d5, a3, a2, b5, b6⟩ := at_T93 a8.out a0 a5 a6; have g7 := a2; have g8 := a3; cases d5; replace a3 := zx HB a3; replace a2 := zx HB a2; have d6 := zA b6; have g9 := zA b5; clear b6 b5; replace a5 := eq_true a5; replace a6 := eq_true a6; have a9 : 0 ≤ (a0 : Int) := zD; have b0 : a0 < (l0.length : Int) := zD; obtain ⟨e6, i4, i5, e7, a7, a4, d0, d1⟩ := at_T93 a8.out a0 a9 b0; have i6 := a4; have i7 := a7; obtain rfl : a1 = e6 := (by injection e7); replace a7 := zx HB a7; replace a4 := zx HB a4; have e8 := zA d1; have i8 := zA d0; clear d1 d0; replace a9 := eq_true a9; replace b0 := eq_true b0; have ea_ := Option.some.inj (a2.symm.trans a4); injection ea_ with ea_ en_ ec_; subst ea_; subst ec_; clear en_
        refine start_ (n := 35) (S := fun w' => w'.cell? (a1.add ((a0).toNat * 2)) = some (.string ((rd_T93 l0 a0).f0)) ∧ w'.cell? ⟨(a1.add ((a0).toNat * 2)).block, (a1.add ((a0).toNat * 2)).off + 1, none⟩ = some (.slice b3 ((rd_T93 l0 a0).f1).length b4) ∧ w'.cell? (a1.add ((a0).toNat * 2)) = some (.string ((rd_T93 l0 a0).f0)) ∧ w'.cell? ⟨(a1.add ((a0).toNat * 2)).block, (a1.add ((a0).toNat * 2)).off + 1, none⟩ = some (.slice b3 ((rd_T93 l0 a0).f1).length b4)) (ds := []) (Array.replicate 35 false) (by kernel_rfl) rfl rfl zO fun hHeld => ?_; refine with_tabW spec_l7Cmds.tab4 spec_l7Cmds.bits4 (fun HT_ HW_ => ?_)
        generalize wc.drew = n8 at HB d6 e8 a3 a2 a7 a4 hHeld ⊢; refine zp 0 11 ?_; refine zp 1 12 ?_; refine zp 2 13 ?_; refine zp 3 14 ?_; refine zt 4 15 ?_
        refine zo 5 (some 16) fun K hK => ?_
        refine goes_ Tryz.func53 (by kernel_rfl) rfl #[.string ((rd_T93 l0 a0).f0)] (by rfl) rfl rfl zM ?_
        with_reducible refine (spec_NameOk.calls e3 ((rd_T93 l0 a0).f0) true _ A7.out).mono ?_
        rintro e w' ⟨rfl, ⟨nd, rfl⟩⟩
        refine ⟨_, rfl, ?_⟩
        refine hK.out _ _ zO fun hHeld => ?_
        clear hK K; refine zn ?_; refine zp 6 17 ?_; refine zp 7 18 ?_; refine zp 8 19 ?_; refine zp 9 20 ?_; refine zp 10 21 ?_; refine zp 11 22 ?_; refine zt 12 23 ?_; refine zp 13 24 ?_
        refine zo 14 (some 25) fun K hK => ?_
        refine goes_ Tryz.func104 (by kernel_rfl) rfl #[.int .i64 (((rd_T93 l0 a0).f1).length : Int), .int .i64 1, .int .i64 5] (by rfl) rfl rfl zM ?_
        with_reducible refine (spec_l1In.calls (((rd_T93 l0 a0).f1).length : Int) 1 5 true _ A9.out).mono ?_
        rintro e w' ⟨rfl, ⟨nd, rfl⟩⟩
        refine ⟨_, rfl, ?_⟩
        refine hK.out _ _ zO fun hHeld => ?_
        clear hK K; refine zn ?_; refine zp 15 26 ?_; refine zp 16 27 ?_; refine zp 17 28 ?_; refine zp 18 29 ?_; refine zp 19 30 ?_; refine zp 20 31 ?_; refine zu 21 32 ?_; refine zu 22 33 ?_; refine zu 23 34 ?_; refine zu 24 35 ?_; refine zu 25 36 ?_; refine zu 26 37 ?_; refine zu 27 38 ?_; refine zu 28 39 ?_; refine zu 29 40 ?_; refine zu 30 41 ?_; refine zu 31 42 ?_; refine zu 32 43 ?_; refine zp 33 44 ?_; refine zp 34 45 ?_
        refine done_ (done_of HT_.out (by kernel_rfl)) ?_
        try go_wp2
        go_meet
        case rel => exact ⟨_, (false), zS, (by first | exact H' | (subst_vars; exact H')), ⟨by have := b9.out; have := c9.out; first | omega | exact Nat.le_refl _⟩, ⟨zB⟩⟩
       have H' := zA H; clear H
       try go_wp2
       replace HB := zA (below_drew1 HB.out); have a5 : 0 ≤ (a0 : Int) := zD; have a6 : a0 < (l0.length : Int) := zD; obtain ⟨a1, b3, b4, d5, a3, a2, b5, b6⟩ := at_T93 a8.out a0 a5 a6; have g7 := a2; have g8 := a3; cases d5; replace a3 := zx HB a3; replace a2 := zx HB a2; have d6 := zA b6; have g9 := zA b5; clear b6 b5; replace a5 := eq_true a5; replace a6 := eq_true a6; have a9 : 0 ≤ (a0 : Int) := zD; have b0 : a0 < (l0.length : Int) := zD; obtain ⟨e6, i4, i5, e7, a7, a4, d0, d1⟩ := at_T93 a8.out a0 a9 b0; have i6 := a4; have i7 := a7; obtain rfl : a1 = e6 := (by injection e7); replace a7 := zx HB a7; replace a4 := zx HB a4; have e8 := zA d1; have i8 := zA d0; clear d1 d0; replace a9 := eq_true a9; replace b0 := eq_true b0; have ea_ := Option.some.inj (a2.symm.trans a4); injection ea_ with ea_ en_ ec_; subst ea_; subst ec_; clear en_
       refine start_ (n := 35) (S := fun w' => w'.cell? (a1.add ((a0).toNat * 2)) = some (.string ((rd_T93 l0 a0).f0)) ∧ w'.cell? ⟨(a1.add ((a0).toNat * 2)).block, (a1.add ((a0).toNat * 2)).off + 1, none⟩ = some (.slice b3 ((rd_T93 l0 a0).f1).length b4) ∧ w'.cell? (a1.add ((a0).toNat * 2)) = some (.string ((rd_T93 l0 a0).f0)) ∧ w'.cell? ⟨(a1.add ((a0).toNat * 2)).block, (a1.add ((a0).toNat * 2)).off + 1, none⟩ = some (.slice b3 ((rd_T93 l0 a0).f1).length b4)) (ds := []) (Array.replicate 35 false) (by kernel_rfl) rfl rfl zO fun hHeld => ?_; refine with_tabW spec_l7Cmds.tab4 spec_l7Cmds.bits4 (fun HT_ HW_ => ?_)
       generalize wc.drew = n9 at HB d6 e8 a3 a2 a7 a4 hHeld ⊢; refine zp 0 11 ?_; refine zp 1 12 ?_; refine zp 2 13 ?_; refine zp 3 14 ?_; refine zt 4 15 ?_
       refine zo 5 (some 16) fun K hK => ?_
       refine goes_ Tryz.func53 (by kernel_rfl) rfl #[.string ((rd_T93 l0 a0).f0)] (by rfl) rfl rfl zM ?_
       with_reducible refine (spec_NameOk.calls e3 ((rd_T93 l0 a0).f0) true _ A7.out).mono ?_
       rintro e w' ⟨rfl, ⟨nd, rfl⟩⟩
       refine ⟨_, rfl, ?_⟩
       refine hK.out _ _ zO fun hHeld => ?_
       clear hK K; refine zn ?_; refine zp 6 17 ?_; refine zp 7 18 ?_; refine zp 8 19 ?_; refine zp 9 20 ?_; refine zp 10 21 ?_; refine zp 11 22 ?_; refine zt 12 23 ?_; refine zp 13 24 ?_
       refine zo 14 (some 25) fun K hK => ?_
       refine goes_ Tryz.func104 (by kernel_rfl) rfl #[.int .i64 (((rd_T93 l0 a0).f1).length : Int), .int .i64 1, .int .i64 5] (by rfl) rfl rfl zM ?_
       with_reducible refine (spec_l1In.calls (((rd_T93 l0 a0).f1).length : Int) 1 5 false _ A9.out).mono ?_
       rintro e w' ⟨rfl, ⟨nd, rfl⟩⟩
       refine ⟨_, rfl, ?_⟩
       refine hK.out _ _ zO fun hHeld => ?_
       clear hK K; refine zn ?_; refine zp 15 26 ?_; refine zp 16 27 ?_; refine zp 17 28 ?_; refine zu 18 29 ?_; refine zu 19 30 ?_; refine zu 20 31 ?_; refine zu 21 32 ?_; refine zu 22 33 ?_; refine zu 23 34 ?_; refine zu 24 35 ?_; refine zu 25 36 ?_; refine zu 26 37 ?_; refine zu 27 38 ?_; refine zu 28 39 ?_; refine zu 29 40 ?_; refine zu 30 41 ?_; refine zu 31 42 ?_; refine zu 32 43 ?_; refine zu 33 44 ?_; refine zp 34 45 ?_
       refine done_ (done_of HT_.out (by kernel_rfl)) ?_
       try go_wp2
       go_meet
       case rel => exact ⟨_, (true), zS, (by first | exact H' | (subst_vars; exact H')), ⟨by have := b9.out; have := c9.out; first | omega | exact Nat.le_refl _⟩, ⟨zB⟩⟩
      have H' := zA H; clear H
      try go_wp2
      replace HB := zA (below_drew1 HB.out); have a5 : 0 ≤ (a0 : Int) := zD; have a6 : a0 < (l0.length : Int) := zD; obtain ⟨a1, b3, b4, d5, a3, a2, b5, b6⟩ := at_T93 a8.out a0 a5 a6; have g7 := a2; have g8 := a3; cases d5; replace a3 := zx HB a3; replace a2 := zx HB a2; have d6 := zA b6; have g9 := zA b5; clear b6 b5; replace a5 := eq_true a5; replace a6 := eq_true a6
      refine start_ (n := 35) (S := fun w' => w'.cell? (a1.add ((a0).toNat * 2)) = some (.string ((rd_T93 l0 a0).f0)) ∧ w'.cell? ⟨(a1.add ((a0).toNat * 2)).block, (a1.add ((a0).toNat * 2)).off + 1, none⟩ = some (.slice b3 ((rd_T93 l0 a0).f1).length b4)) (ds := []) (Array.replicate 35 false) (by kernel_rfl) rfl rfl zO fun hHeld => ?_; refine with_tabW spec_l7Cmds.tab4 spec_l7Cmds.bits4 (fun HT_ HW_ => ?_)
      generalize wc.drew = o0 at HB d6 a3 a2 hHeld ⊢; refine zp 0 11 ?_; refine zp 1 12 ?_; refine zp 2 13 ?_; refine zp 3 14 ?_; refine zt 4 15 ?_
      refine zo 5 (some 16) fun K hK => ?_
      refine goes_ Tryz.func53 (by kernel_rfl) rfl #[.string ((rd_T93 l0 a0).f0)] (by rfl) rfl rfl zM ?_
      with_reducible refine (spec_NameOk.calls e3 ((rd_T93 l0 a0).f0) false _ A7.out).mono ?_
      rintro e w' ⟨rfl, ⟨nd, rfl⟩⟩
      refine ⟨_, rfl, ?_⟩
      refine hK.out _ _ zO fun hHeld => ?_
      clear hK K; refine zn ?_; refine zp 6 17 ?_; refine zp 7 18 ?_; refine zu 8 19 ?_; refine zu 9 20 ?_; refine zu 10 21 ?_; refine zu 11 22 ?_; refine zu 12 23 ?_; refine zu 13 24 ?_; refine zu 14 25 ?_; refine zu 15 26 ?_; refine zp 16 27 ?_; refine zp 17 28 ?_; refine zu 18 29 ?_; refine zu 19 30 ?_; refine zu 20 31 ?_; refine zu 21 32 ?_; refine zu 22 33 ?_; refine zu 23 34 ?_; refine zu 24 35 ?_; refine zu 25 36 ?_; refine zu 26 37 ?_; refine zu 27 38 ?_; refine zu 28 39 ?_; refine zu 29 40 ?_; refine zu 30 41 ?_; refine zu 31 42 ?_; refine zu 32 43 ?_; refine zu 33 44 ?_; refine zp 34 45 ?_
      refine done_ (done_of HT_.out (by kernel_rfl)) ?_
      try go_wp2
      go_meet
      case rel => exact ⟨_, (true), zS, (by first | exact H' | (subst_vars; exact H')), ⟨by have := b9.out; have := c9.out; first | omega | exact Nat.le_refl _⟩, ⟨zB⟩⟩
     case rest =>
      clear g5
      try clear c1
      try clear p2
      try clear c4
      try clear p4
      try clear q4
      try clear hx4
      try clear c5
      try clear c6
      try clear c8
      try clear c10
      try clear a3
      try clear a2
      try clear a7
      try clear a4
      try clear a5
      try clear a9
      try clear a6
      try clear b0
      obtain ⟨kq, g6, rfl, HA, f2, HB⟩ := hcut
      cases kq with
      | zero => exact absurd HA.out (by simp [spec_l7Cmds.j2])
      | succ l7 =>
       have H := HA.out; clear HA; simp only [spec_l7Cmds.j2] at H; have h4 := zA H; clear H
       go_upto_if 45 with (fail)
       go_cut [] (fun wc => ∃ (kq : Nat), Aside0 (spec_l7Cmds.j3 kq l0 a0 = some r) ∧ Aside0 (kq ≤ l7) ∧ Aside0 (Below w.heap.size w wc))
       case first =>
        have H := h4.out; clear h4; replace H := zB0 H
        rcases H with ⟨rfl, H⟩ | ⟨rfl, H⟩
        ·obtain rfl := zm H
         go_wp2
         go_ret
         exact ⟨zE, zB⟩
        have H' := zA H; clear H
        go_wp2
        go_meet
        case rel => exact ⟨_, (by first | exact H' | (subst_vars; exact H')), ⟨by have := b9.out; have := c9.out; have := f2.out; first | omega | exact Nat.le_refl _⟩, ⟨zB⟩⟩
       case rest =>
        clear h4
        try clear c1
        try clear c2
        try clear p2
        try clear c4
        try clear p4
        try clear q4
        try clear hx4
        try clear c5
        try clear c6
        try clear c8
        try clear c10
        try clear c20
        try clear a3
        try clear a2
        try clear a7
        try clear a4
        try clear p2
        try clear p4
        try clear a5
        try clear a9
        try clear q4
        try clear a6
        try clear b0
        obtain ⟨kq, HA, g1, HB⟩ := hcut
        cases kq with
        | zero => exact absurd HA.out (by simp [spec_l7Cmds.j3])
        | succ j6 =>
         have H := HA.out; clear HA; simp only [spec_l7Cmds.j3] at H; have H' := zA H; clear H
         go_wp2
         go_loopg [4] j6 (fun kq v4 w' => ∃ (b1 : Int), v4 = .int .i64 b1 ∧ Aside0 (spec_l7Cmds.l1 kq l0 a0 b1 = some r) ∧ Aside0 (kq ≤ j6) ∧ Aside0 (Below w.heap.size w w'))
         case atStart => exact ⟨(0), zS, H', ⟨Nat.le_refl _⟩, ⟨zB⟩⟩
         case round =>
          clear H'
          try clear c1
          try clear c2
          try clear p2
          try clear c4
          try clear p4
          try clear q4
          try clear hx4
          try clear c5
          try clear c6
          try clear c8
          try clear c10
          try clear c20
          try clear a3
          try clear a2
          try clear a7
          try clear a4
          try clear p2
          try clear p4
          try clear a5
          try clear a9
          try clear q4
          try clear a6
          try clear b0
          obtain ⟨b1, rfl, HA, g2, HB⟩ := hrel
          cases gk with
          | zero => exact absurd HA.out (by simp [spec_l7Cmds.l1])
          | succ k5 =>
           have H := HA.out; clear HA; simp only [spec_l7Cmds.l1] at H; replace H := zD0 H; obtain ⟨o1, H⟩ := H; replace H := zD0 H; obtain ⟨o2, H⟩ := H; replace H := zI0 H
           rcases H with ⟨l8, H⟩ | ⟨l8, H⟩
           ·replace H := zD0 H; obtain ⟨o3, H⟩ := H; replace H := Option.bind_eq_some_iff.mp H; obtain ⟨o4, j7, H⟩ := H
            try dsimp only at H
            have j8 := zA j7; clear j7; replace H := zB0 H
            rcases H with ⟨rfl, H⟩ | ⟨rfl, H⟩
            ·have H' := zA H; clear H; have b7 : 0 ≤ (a0 : Int) := zD; have b8 : a0 < (l0.length : Int) := zD; obtain ⟨g3, j9, k0, f3, d2, c7, d3, d4⟩ := at_T93 a8.out a0 b7 b8; cases f3; replace d2 := zx HB d2; replace c7 := zx HB c7; have k2 := zA d4; have k3 := zA d3; clear d4 d3; replace b7 := eq_true b7; replace b8 := eq_true b8; have d7 : 0 ≤ (a0 : Int) := zD; have d8 : a0 < (l0.length : Int) := zD; obtain ⟨h5, l9, m0, h6, f4, d9, f5, f6⟩ := at_T93 a8.out a0 d7 d8; obtain rfl : g3 = h5 := (by injection h6); replace f4 := zx HB f4; replace d9 := zx HB d9; have h7 := zA f6; have m1 := zA f5; clear f6 f5; replace d7 := eq_true d7; replace d8 := eq_true d8; have ea_ := Option.some.inj (c7.symm.trans d9); injection ea_ with ea_ en_ ec_; subst ea_; subst ec_; clear en_; have e0 : 0 ≤ (b1 : Int) := zD; have e1 : b1 < (((rd_T93 l0 a0).f1).length : Int) := zD; obtain ⟨m2, h8, f7⟩ := Kd.at_string h7.out b1 e0 e1; cases h8; replace f7 := zx HB f7; replace e0 := eq_true e0; replace e1 := eq_true e1
             go_wp2_with (first | ((with_reducible refine zq 110 ?_); refine zg (some 64) Tryz.func110 #[.string (rdOf ByteArray.empty ((rd_T93 l0 a0).f1) b1), .int .i64 40] ?_; (with_reducible refine (spec_PlainOk.calls k5 (rdOf ByteArray.empty ((rd_T93 l0 a0).f1) b1) 40 true _ j8.out).mono ?_); rintro e w' ⟨rfl, ⟨nd, rfl⟩⟩; refine ⟨_, rfl, ?_⟩))
             go_roundg k5
             case measure => have := b9.out; have := c9.out; have := f2.out; have := g1.out; have := g2.out; omega
             case rel => exact ⟨(wrap64 (b1 + 1)), zS, H', ⟨by have := b9.out; have := c9.out; have := f2.out; have := g1.out; have := g2.out; omega⟩, ⟨zB⟩⟩
            obtain rfl := zm H; have b7 : 0 ≤ (a0 : Int) := zD; have b8 : a0 < (l0.length : Int) := zD; obtain ⟨g3, j9, k0, f3, d2, c7, d3, d4⟩ := at_T93 a8.out a0 b7 b8; cases f3; replace d2 := zx HB d2; replace c7 := zx HB c7; have k2 := zA d4; have k3 := zA d3; clear d4 d3; replace b7 := eq_true b7; replace b8 := eq_true b8; have d7 : 0 ≤ (a0 : Int) := zD; have d8 : a0 < (l0.length : Int) := zD; obtain ⟨h5, l9, m0, h6, f4, d9, f5, f6⟩ := at_T93 a8.out a0 d7 d8; obtain rfl : g3 = h5 := (by injection h6); replace f4 := zx HB f4; replace d9 := zx HB d9; have h7 := zA f6; have m1 := zA f5; clear f6 f5; replace d7 := eq_true d7; replace d8 := eq_true d8; have ea_ := Option.some.inj (c7.symm.trans d9); injection ea_ with ea_ en_ ec_; subst ea_; subst ec_; clear en_; have e0 : 0 ≤ (b1 : Int) := zD; have e1 : b1 < (((rd_T93 l0 a0).f1).length : Int) := zD; obtain ⟨m2, h8, f7⟩ := Kd.at_string h7.out b1 e0 e1; cases h8; replace f7 := zx HB f7; replace e0 := eq_true e0; replace e1 := eq_true e1
            go_wp2_with (first | ((with_reducible refine zq 110 ?_); refine zg (some 64) Tryz.func110 #[.string (rdOf ByteArray.empty ((rd_T93 l0 a0).f1) b1), .int .i64 40] ?_; (with_reducible refine (spec_PlainOk.calls k5 (rdOf ByteArray.empty ((rd_T93 l0 a0).f1) b1) 40 false _ j8.out).mono ?_); rintro e w' ⟨rfl, ⟨nd, rfl⟩⟩; refine ⟨_, rfl, ?_⟩))
            go_ret
            exact ⟨zE, zB⟩
           have H' := zA H; clear H; have b7 : 0 ≤ (a0 : Int) := zD; have b8 : a0 < (l0.length : Int) := zD; obtain ⟨g3, j9, k0, f3, d2, c7, d3, d4⟩ := at_T93 a8.out a0 b7 b8; cases f3; replace d2 := zx HB d2; replace c7 := zx HB c7; have k2 := zA d4; have k3 := zA d3; clear d4 d3; replace b7 := eq_true b7; replace b8 := eq_true b8
           go_wp2
           go_roundg k5
           case measure => have := b9.out; have := c9.out; have := f2.out; have := g1.out; have := g2.out; omega
           case rel => exact ⟨(wrap64 (a0 + 1)), zS, H', ⟨by have := b9.out; have := c9.out; have := f2.out; have := g1.out; have := g2.out; omega⟩, ⟨zB⟩⟩
/-! ### spec_PackOk: function 17 -/
def spec_PackOk.f (k : Nat) (a1 : ByteArray) (a0 : List ByteArray) (a2 : List (S30)) (a3 : List (S93)) : Option (Bool) := (spec_NameOk.f k a1).bind fun a4 => (if a4 = true then (if (a0.length : Int) ≤ 4 then ((spec_l7Names.f k a0).bind fun a5 => (if a5 = true then ((spec_l7Ascending.f k a0).bind fun a6 => (if a6 = true then ((spec_l7Needs.f k a2).bind fun a7 => (if a7 = true then ((spec_l7Cmds.f k a3).bind fun a8 => (some a8)) else (some false))) else (some false))) else (some false))) else (some false)) else (some false))
theorem spec_PackOk.calls (k : Nat) (a0 : ByteArray) (a5 : Option Addr) (a6 : Nat) (a1 : List ByteArray) (a7 : Option Addr) (a8 : Nat) (a3 : List (S30)) (a9 : Option Addr) (b0 : Nat) (a4 : List (S93)) (r : Bool) (w : World) (b6 : Kd.C Kd.string w a5 a1.length a1) (b7 : a1.length ≤ a6) (b8 : Kd.C k30 w a7 a3.length a3) (b9 : a3.length ≤ a8) (c0 : Kd.C k93 w a9 a4.length a4) (c1 : a4.length ≤ b0) (h : spec_PackOk.f k a0 a1 a3 a4 = some r) :
  Calls Tryz.prog 17 #[.agg #[.string a0, .slice a5 a1.length a6, .slice a7 a3.length a8, .slice a9 a4.length b0]] w fun e w' => e = .returned (.bool r) ∧ Below w.heap.size w w' := by
 have d6 := Tryz.underlying45
 have b1 := zA b6
 have b2 := zA b7
 clear b6 b7
 have c2 := zA b8
 have c3 := zA b9
 clear b8 b9
 have d0 := zA c0
 have d1 := zA c1
 clear c0 c1
 have HB := zA (Below.refl w.heap.size w)
 unfold spec_PackOk.f at h
 have H := h
 clear h
 replace H := Option.bind_eq_some_iff.mp H
 obtain ⟨d7, c5, H⟩ := H
 try dsimp only at H
 have A2 := zA c5
 clear c5
 replace H := zB0 H
 rcases H with ⟨rfl, H⟩ | ⟨rfl, H⟩
 ·replace H := zI1 H
  rcases H with ⟨c4, H⟩ | ⟨c4, H⟩
  ·have d2 := decide_eq_true c4; have d3 : decide (a1.length ≤ 4) = true := decide_eq_true (by omega); clear c4; replace H := Option.bind_eq_some_iff.mp H; obtain ⟨d8, c6, H⟩ := H
   try dsimp only at H
   have A5 := zA c6; clear c6; replace H := zB0 H
   rcases H with ⟨rfl, H⟩ | ⟨rfl, H⟩
   ·replace H := Option.bind_eq_some_iff.mp H; obtain ⟨d9, c7, H⟩ := H
    try dsimp only at H
    have A7 := zA c7; clear c7; replace H := zB0 H
    rcases H with ⟨rfl, H⟩ | ⟨rfl, H⟩
    ·replace H := Option.bind_eq_some_iff.mp H; obtain ⟨e0, c8, H⟩ := H
     try dsimp only at H
     have A9 := zA c8; clear c8; replace H := zB0 H
     rcases H with ⟨rfl, H⟩ | ⟨rfl, H⟩
     ·replace H := Option.bind_eq_some_iff.mp H; obtain ⟨d4, c9, H⟩ := H
      try dsimp only at H
      have d5 := zA c9; clear c9; obtain rfl := zm H
      go_enter Tryz.func17, Tryz.ntmps17
      go_wp2_with (first | ((with_reducible refine gate_dst (N := 1) rfl ?_); (try (refine gate_guard (by rfl) ?_; dsimp only)); refine box_event ?hg (N := 1) ?hd (cs := #[.string a0, .slice a5 a1.length a6, .slice a7 a3.length a8, .slice a9 a4.length b0]) (t := 45) ?hr ?_; (case hd => rfl); (case hg => rfl); (case hr => first | (go_simp; done) | (go_simp; rfl)); intro b3 hg e1 hbox hb; have a2 := zA (hbox); have b4 := zi HB hg; have b5 := zi HB hg; replace HB := zA (below_step (zB) hb); clear hb hbox hg; obtain ⟨e2, e3, e4, e5, e6, e7, e8, e9⟩ := ze4 a2.out) | ((with_reducible refine zq 53 ?_); refine zg (some 5) Tryz.func53 #[.string a0] ?_; (with_reducible refine (spec_NameOk.calls k a0 true _ A2.out).mono ?_); rintro e w' ⟨rfl, ⟨nd, rfl⟩⟩; refine ⟨_, rfl, ?_⟩) | (go_at_call 54; (with_reducible refine (spec_l7Names.calls k _ _ a1 true _ ?s1 ?s2 A5.out).mono ?_); (case s1 => repeat (first | exact (Kd.C_below b1.out (zW HB.out)) | (with_reducible refine Kd.C_alloc ?_ _) | (with_reducible refine Kd.C_drewN ?_ _) | (with_reducible refine Kd.C_drew ?_))); (case s2 => exact b2.out); rintro e w' ⟨rfl, ⟨nd, rfl⟩⟩) | (go_at_call 55; (with_reducible refine (spec_l7Ascending.calls k _ _ a1 true _ ?s1 ?s2 A7.out).mono ?_); (case s1 => repeat (first | exact (Kd.C_below b1.out (zW HB.out)) | (with_reducible refine Kd.C_alloc ?_ _) | (with_reducible refine Kd.C_drewN ?_ _) | (with_reducible refine Kd.C_drew ?_))); (case s2 => exact b2.out); rintro e w' ⟨rfl, ⟨nd, rfl⟩⟩) | (go_at_call 56; (with_reducible refine (spec_l7Needs.calls k _ _ a3 true _ ?s1 ?s2 A9.out).mono ?_); (case s1 => repeat (first | exact (Kd.C_below c2.out (zW HB.out)) | (with_reducible refine Kd.C_alloc ?_ _) | (with_reducible refine Kd.C_drewN ?_ _) | (with_reducible refine Kd.C_drew ?_))); (case s2 => exact c3.out); rintro e f0 ⟨rfl, hb⟩; replace a2 := zb a2 hb; replace HB := zh HB hb; (try clear hb); obtain ⟨f1, f2, f3, f4, f5, f6, f7, f8⟩ := ze4 a2.out) | (go_at_call 57; (with_reducible refine (spec_l7Cmds.calls k _ _ a4 d4 _ ?s1 ?s2 d5.out).mono ?_); (case s1 => exact zC (Kd.C_below d0.out HB.out)); (case s2 => exact d1.out); rintro e f9 ⟨rfl, hb⟩; replace a2 := zb a2 hb; replace HB := zh HB hb; (try clear hb)))
      go_ret
      exact ⟨zE, zW HB.out⟩
     obtain rfl := zm H
     go_enter Tryz.func17, Tryz.ntmps17
     go_wp2_with (first | ((with_reducible refine gate_dst (N := 1) rfl ?_); (try (refine gate_guard (by rfl) ?_; dsimp only)); refine box_event ?hg (N := 1) ?hd (cs := #[.string a0, .slice a5 a1.length a6, .slice a7 a3.length a8, .slice a9 a4.length b0]) (t := 45) ?hr ?_; (case hd => rfl); (case hg => rfl); (case hr => first | (go_simp; done) | (go_simp; rfl)); intro b3 hg g0 hbox hb; have a2 := zA (hbox); have b4 := zi HB hg; have b5 := zi HB hg; replace HB := zA (below_step (zB) hb); clear hb hbox hg; obtain ⟨g1, g2, g3, g4, g5, g6, g7, g8⟩ := ze4 a2.out) | ((with_reducible refine zq 53 ?_); refine zg (some 5) Tryz.func53 #[.string a0] ?_; (with_reducible refine (spec_NameOk.calls k a0 true _ A2.out).mono ?_); rintro e w' ⟨rfl, ⟨nd, rfl⟩⟩; refine ⟨_, rfl, ?_⟩) | (go_at_call 54; (with_reducible refine (spec_l7Names.calls k _ _ a1 true _ ?s1 ?s2 A5.out).mono ?_); (case s1 => repeat (first | exact (Kd.C_below b1.out (zW HB.out)) | (with_reducible refine Kd.C_alloc ?_ _) | (with_reducible refine Kd.C_drewN ?_ _) | (with_reducible refine Kd.C_drew ?_))); (case s2 => exact b2.out); rintro e w' ⟨rfl, ⟨nd, rfl⟩⟩) | (go_at_call 55; (with_reducible refine (spec_l7Ascending.calls k _ _ a1 true _ ?s1 ?s2 A7.out).mono ?_); (case s1 => repeat (first | exact (Kd.C_below b1.out (zW HB.out)) | (with_reducible refine Kd.C_alloc ?_ _) | (with_reducible refine Kd.C_drewN ?_ _) | (with_reducible refine Kd.C_drew ?_))); (case s2 => exact b2.out); rintro e w' ⟨rfl, ⟨nd, rfl⟩⟩) | (go_at_call 56; (with_reducible refine (spec_l7Needs.calls k _ _ a3 false _ ?s1 ?s2 A9.out).mono ?_); (case s1 => repeat (first | exact (Kd.C_below c2.out (zW HB.out)) | (with_reducible refine Kd.C_alloc ?_ _) | (with_reducible refine Kd.C_drewN ?_ _) | (with_reducible refine Kd.C_drew ?_))); (case s2 => exact c3.out); rintro e g9 ⟨rfl, hb⟩; replace a2 := zb a2 hb; replace HB := zh HB hb; (try clear hb)))
     go_ret
     exact ⟨zE, zW HB.out⟩
    obtain rfl := zm H
    go_enter Tryz.func17, Tryz.ntmps17
    go_wp2_with (first | ((with_reducible refine gate_dst (N := 1) rfl ?_); (try (refine gate_guard (by rfl) ?_; dsimp only)); refine box_event ?hg (N := 1) ?hd (cs := #[.string a0, .slice a5 a1.length a6, .slice a7 a3.length a8, .slice a9 a4.length b0]) (t := 45) ?hr ?_; (case hd => rfl); (case hg => rfl); (case hr => first | (go_simp; done) | (go_simp; rfl)); intro b3 hg h0 hbox hb; have a2 := zA (hbox); have b4 := zi HB hg; have b5 := zi HB hg; replace HB := zA (below_step (zB) hb); clear hb hbox hg; obtain ⟨h1, h2, h3, h4, h5, h6, h7, h8⟩ := ze4 a2.out) | ((with_reducible refine zq 53 ?_); refine zg (some 5) Tryz.func53 #[.string a0] ?_; (with_reducible refine (spec_NameOk.calls k a0 true _ A2.out).mono ?_); rintro e w' ⟨rfl, ⟨nd, rfl⟩⟩; refine ⟨_, rfl, ?_⟩) | (go_at_call 54; (with_reducible refine (spec_l7Names.calls k _ _ a1 true _ ?s1 ?s2 A5.out).mono ?_); (case s1 => repeat (first | exact (Kd.C_below b1.out (zW HB.out)) | (with_reducible refine Kd.C_alloc ?_ _) | (with_reducible refine Kd.C_drewN ?_ _) | (with_reducible refine Kd.C_drew ?_))); (case s2 => exact b2.out); rintro e w' ⟨rfl, ⟨nd, rfl⟩⟩) | (go_at_call 55; (with_reducible refine (spec_l7Ascending.calls k _ _ a1 false _ ?s1 ?s2 A7.out).mono ?_); (case s1 => repeat (first | exact (Kd.C_below b1.out (zW HB.out)) | (with_reducible refine Kd.C_alloc ?_ _) | (with_reducible refine Kd.C_drewN ?_ _) | (with_reducible refine Kd.C_drew ?_))); (case s2 => exact b2.out); rintro e w' ⟨rfl, ⟨nd, rfl⟩⟩))
    go_ret
    exact ⟨zE, zW HB.out⟩
   obtain rfl := zm H
   go_enter Tryz.func17, Tryz.ntmps17
   go_wp2_with (first | ((with_reducible refine gate_dst (N := 1) rfl ?_); (try (refine gate_guard (by rfl) ?_; dsimp only)); refine box_event ?hg (N := 1) ?hd (cs := #[.string a0, .slice a5 a1.length a6, .slice a7 a3.length a8, .slice a9 a4.length b0]) (t := 45) ?hr ?_; (case hd => rfl); (case hg => rfl); (case hr => first | (go_simp; done) | (go_simp; rfl)); intro b3 hg h9 hbox hb; have a2 := zA (hbox); have b4 := zi HB hg; have b5 := zi HB hg; replace HB := zA (below_step (zB) hb); clear hb hbox hg; obtain ⟨i0, i1, i2, i3, i4, i5, i6, i7⟩ := ze4 a2.out) | ((with_reducible refine zq 53 ?_); refine zg (some 5) Tryz.func53 #[.string a0] ?_; (with_reducible refine (spec_NameOk.calls k a0 true _ A2.out).mono ?_); rintro e w' ⟨rfl, ⟨nd, rfl⟩⟩; refine ⟨_, rfl, ?_⟩) | (go_at_call 54; (with_reducible refine (spec_l7Names.calls k _ _ a1 false _ ?s1 ?s2 A5.out).mono ?_); (case s1 => repeat (first | exact (Kd.C_below b1.out (zW HB.out)) | (with_reducible refine Kd.C_alloc ?_ _) | (with_reducible refine Kd.C_drewN ?_ _) | (with_reducible refine Kd.C_drew ?_))); (case s2 => exact b2.out); rintro e w' ⟨rfl, ⟨nd, rfl⟩⟩))
   go_ret
   exact ⟨zE, zW HB.out⟩
  have d2 := decide_eq_false c4; have d3 : decide (a1.length ≤ 4) = false := decide_eq_false (by omega); clear c4; obtain rfl := zm H
  go_enter Tryz.func17, Tryz.ntmps17
  go_wp2_with (first | ((with_reducible refine gate_dst (N := 1) rfl ?_); (try (refine gate_guard (by rfl) ?_; dsimp only)); refine box_event ?hg (N := 1) ?hd (cs := #[.string a0, .slice a5 a1.length a6, .slice a7 a3.length a8, .slice a9 a4.length b0]) (t := 45) ?hr ?_; (case hd => rfl); (case hg => rfl); (case hr => first | (go_simp; done) | (go_simp; rfl)); intro b3 hg i8 hbox hb; have a2 := zA (hbox); have b4 := zi HB hg; have b5 := zi HB hg; replace HB := zA (below_step (zB) hb); clear hb hbox hg; obtain ⟨i9, j0, j1, j2, j3, j4, j5, j6⟩ := ze4 a2.out) | ((with_reducible refine zq 53 ?_); refine zg (some 5) Tryz.func53 #[.string a0] ?_; (with_reducible refine (spec_NameOk.calls k a0 true _ A2.out).mono ?_); rintro e w' ⟨rfl, ⟨nd, rfl⟩⟩; refine ⟨_, rfl, ?_⟩))
  go_ret
  exact ⟨zE, zW HB.out⟩
 obtain rfl := zm H
 go_enter Tryz.func17, Tryz.ntmps17
 go_wp2_with (first | ((with_reducible refine gate_dst (N := 1) rfl ?_); (try (refine gate_guard (by rfl) ?_; dsimp only)); refine box_event ?hg (N := 1) ?hd (cs := #[.string a0, .slice a5 a1.length a6, .slice a7 a3.length a8, .slice a9 a4.length b0]) (t := 45) ?hr ?_; (case hd => rfl); (case hg => rfl); (case hr => first | (go_simp; done) | (go_simp; rfl)); intro b3 hg j7 hbox hb; have a2 := zA (hbox); have b4 := zi HB hg; have b5 := zi HB hg; replace HB := zA (below_step (zB) hb); clear hb hbox hg; obtain ⟨j8, j9, k0, k1, k2, k3, k4, k5⟩ := ze4 a2.out) | ((with_reducible refine zq 53 ?_); refine zg (some 5) Tryz.func53 #[.string a0] ?_; (with_reducible refine (spec_NameOk.calls k a0 false _ A2.out).mono ?_); rintro e w' ⟨rfl, ⟨nd, rfl⟩⟩; refine ⟨_, rfl, ?_⟩))
 go_ret
 exact ⟨zE, zW HB.out⟩
/-! ### spec_FindPack: function 74 -/
def spec_FindPack.l0 : Nat → List (S45) → ByteArray → Int → Option (Int)
 | 0, _, _, _ => none
 | k + 1, x0, x1, x5 => if x5 < (x0.length : Int) then (if 0 ≤ x5 then (if ((rd_T45 x0 x5).f0).toList = x1.toList then (some x5) else (spec_FindPack.l0 k x0 x1 (wrap64 (x5 + 1)))) else (none)) else (some (-1))
def spec_FindPack.f (k : Nat) (l0 : List (S45)) (a1 : ByteArray) : Option (Int) := spec_FindPack.l0 k l0 a1 0
theorem spec_FindPack.calls (k : Nat) (A0 : Option Addr) (c0 : Nat) (l0 : List (S45)) (a1 : ByteArray) (r : Int) (w : World) (b1 : Kd.C k45 w A0 l0.length l0) (b2 : l0.length ≤ c0) (h : spec_FindPack.f k l0 a1 = some r) :
  Calls Tryz.prog 74 #[.slice A0 l0.length c0, .string a1] w fun e w' => e = .returned (.int .i64 r) ∧ Drawn0 w w' := by
 have b3 := zA b1
 have d7 := zA b2
 clear b1 b2
 unfold spec_FindPack.f at h
 have H := h
 clear h
 have H' := zA H
 clear H
 go_enter Tryz.func74, Tryz.ntmps74
 go_wp2
 go_loopg [5] k (fun kq v5 w' => ∃ (a0 : Int), v5 = .int .i64 a0 ∧ Aside0 (spec_FindPack.l0 kq l0 a1 a0 = some r) ∧ Aside0 (kq ≤ k) ∧ Drawn0 w w')
 case atStart => exact ⟨(0), zS, H', ⟨Nat.le_refl _⟩, by repeat (first | exact Drawn0.refl _ | apply Drawn0.step)⟩
 case round =>
  clear H'
  try clear p2
  obtain ⟨a0, rfl, HA, b4, ⟨m1, rfl⟩⟩ := hrel
  cases gk with
  | zero => exact absurd HA.out (by simp [spec_FindPack.l0])
  | succ k1 =>
   have H := HA.out; clear HA; simp only [spec_FindPack.l0] at H; replace H := zI0 H
   rcases H with ⟨b5, H⟩ | ⟨b5, H⟩
   ·replace H := zD0 H; obtain ⟨d8, H⟩ := H; replace H := zI1 H
    rcases H with ⟨c5, H⟩ | ⟨c5, H⟩
    ·have b6 := beq_iff_eq.mpr c5; have b7 := bne_eq_false_iff_eq.mpr c5; clear c5; obtain rfl := zm H; have a2 : 0 ≤ (a0 : Int) := zD; have a3 : a0 < (l0.length : Int) := zD; obtain ⟨b8, b9, c1, c2, c3, c4, c6, b0, c7, c8, c9, d0, a4, a5, a6, a7, a8, a9⟩ := at_T45 b3.out a0 a2 a3; cases b0; have d1 := zA a5; have d2 := zA a4; clear a5 a4; have d3 := zA a7; have d4 := zA a6; clear a7 a6; have d5 := zA a9; have d6 := zA a8; clear a9 a8; replace a2 := eq_true a2; replace a3 := eq_true a3
     go_wp2
     go_ret
     exact ⟨by first | rfl | (simp; done) | (simp [*]; done) | (simp; rw [Bool.eq_iff_iff]; simp; done), by repeat (first | exact Drawn0.refl _ | apply Drawn0.step)⟩
    have b6 := beq_eq_false_iff_ne.mpr c5; have b7 := bne_iff_ne.mpr c5; have H' := zA H; clear H; have a2 : 0 ≤ (a0 : Int) := zD; have a3 : a0 < (l0.length : Int) := zD; obtain ⟨b8, b9, c1, c2, c3, c4, c6, b0, c7, c8, c9, d0, a4, a5, a6, a7, a8, a9⟩ := at_T45 b3.out a0 a2 a3; cases b0; have d1 := zA a5; have d2 := zA a4; clear a5 a4; have d3 := zA a7; have d4 := zA a6; clear a7 a6; have d5 := zA a9; have d6 := zA a8; clear a9 a8; replace a2 := eq_true a2; replace a3 := eq_true a3
    go_wp2
    go_roundg k1
    case measure => have := b4.out; omega
    case rel => exact ⟨(wrap64 (a0 + 1)), zS, H', ⟨by have := b4.out; omega⟩, by repeat (first | exact Drawn0.refl _ | apply Drawn0.step)⟩
   obtain rfl := zm H
   go_wp2
   go_ret
   exact ⟨by first | rfl | (simp; done) | (simp [*]; done) | (simp; rw [Bool.eq_iff_iff]; simp; done), by repeat (first | exact Drawn0.refl _ | apply Drawn0.step)⟩
end Go.Proofs.YtpcdhoeoefoeoaaGreatDoor.PGE
