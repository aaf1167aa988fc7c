/- The walks of the functions that these laws reach, and what each comes to: printed by this session's program. -/
import Derived.Deep.CutBlock
import Derived.Test.YtpcdhoeoefoeoaaGreatDoorZGDPGDx0
import Derived.Test.YtpcdhoeoefoeoaaGreatDoorZGDPGDx1
import Derived.Test.YtpcdhoeoefoeoaaGreatDoorZGDPGDx3
import Derived.Test.YtpcdhoeoefoeoaaGreatDoorZGDPGDx6
import Derived.Test.YtpcdhoeoefoeoaaGreatDoorZGDSays
import Derived.Test.YtpcdhoeoefoeoaaGreatDoorZGDRegN
import Derived.Test.YtpcdhoeoefoeoaaGreatDoorZGDRegs
namespace Go.Proofs.YtpcdhoeoefoeoaaGreatDoor.PGD
open Go.RowKit YtpcdhoeoefoeoaaGreatDoorW.PrintWords YtpcdhoeoefoeoaaGreatDoorW.PrintLast YtpcdhoeoefoeoaaGreatDoorW.PrintMore
attribute [local go_sem high] Mine.str_gtr Mine.str_leq Mine.str_geq
attribute [local go_sem] max2_int min2_int max_two min_two max_three min_three max_four min_four   -- for this text's walks alone
set_option linter.unusedVariables false
set_option maxHeartbeats 8000000
set_option maxRecDepth 100000
set_option linter.unusedSimpArgs false
/-! ### spec_l4List: function 77 -/
mutual
def spec_l4List.j0 : Nat → List ByteArray → List (S75) → Bool → Option ((List (S75)) × Bool)
 | 0, _, _, _ => none
 | k + 1, x0, x4, a4 => if a4 = true then (if 0 < (x0.length : Int) then ((spec_ParseVer.f k (rdOf ByteArray.empty x0 0)).bind fun a0 => (if 2 < (x0.length : Int) then ((spec_ParseVer.f k (rdOf ByteArray.empty x0 2)).bind fun a1 => ((some (([(⟨4, (⟨a0.1, a0.2.1, a0.2.2.1, a0.2.2.2.1⟩ : S32)⟩ : S75), (⟨2, (⟨a1.1, a1.2.1, a1.2.2.1, a1.2.2.2.1⟩ : S32)⟩ : S75)] : List (S75)) : List (S75))).bind fun a3 => (if a0.2.2.2.2 = true then (some (a3, a1.2.2.2.2)) else (some (a3, false))))) else (none))) else (none)) else (spec_l4List.j1 k x0 x4)
def spec_l4List.j1 : Nat → List ByteArray → List (S75) → Option ((List (S75)) × Bool)
 | 0, _, _ => none
 | k + 1, x0, x4 => spec_l4List.l0 k x0 x4 0
def spec_l4List.l0 : Nat → List ByteArray → List (S75) → Int → Option ((List (S75)) × Bool)
 | 0, _, _, _ => none
 | k + 1, x0, x4, x9 => if x9 < (x0.length : Int) then (if 0 ≤ x9 then ((spec_l4Word.f k (rdOf ByteArray.empty x0 x9)).bind fun a2 => (if a2.2 = true then (if x4.length + a2.1.length < 2513169434916 then (spec_l4List.l0 k x0 (x4 ++ a2.1) (wrap64 (x9 + 1))) else (none)) else (some (x4, false)))) else (none)) else (some (x4, decide ((x4.length : Int) ≤ 4)))
end
def spec_l4List.f (k : Nat) (l0 : List ByteArray) : Option ((List (S75)) × Bool) := (some (([] : List (S75)) : List (S75))).bind fun a0 => (if (l0.length : Int) = 3 then (if 1 < (l0.length : Int) then (spec_l4List.j0 k l0 a0 ((rdOf ByteArray.empty l0 1).toList == ([45] : List UInt8))) else (none)) else (spec_l4List.j0 k l0 a0 false))
theorem spec_l4List.calls (k : Nat) (A0 : Option Addr) (c0 : Nat) (l0 : List ByteArray) (r1 : List (S75)) (r2 : Bool) (w : World) (i6 : Kd.C Kd.string w A0 l0.length l0) (i7 : l0.length ≤ c0) (h : spec_l4List.f k l0 = some (r1, r2)) :
  Calls Tryz.prog 77 #[.slice A0 l0.length c0] w fun e w' => ∃ i8 : Value, e = .returned (.tuple #[i8, .bool r2]) ∧ Kd.N k75 75 w' w.heap.size (fun k_ => (w.heap.size ≤ k_)) i8 r1 ∧ Below w.heap.size w w' := by
 have x6 := Tryz.underlying32
 have x7 := Tryz.underlying75
 have e1 := zA i6
 have x8 := zA i7
 clear i6 i7
 have HB := zA (Below.refl w.heap.size w)
 unfold spec_l4List.f at h
 have H := h
 clear h
 obtain ⟨d0, g7⟩ : ∃ y_ : List (S75), y_ = (([] : List (S75))) := ⟨_, rfl⟩
 replace H : (if (l0.length : Int) = 3 then (if 1 < (l0.length : Int) then (spec_l4List.j0 k l0 d0 ((rdOf ByteArray.empty l0 1).toList == ([45] : List UInt8))) else (none)) else (spec_l4List.j0 k l0 d0 false)) = some (r1, r2) := zY g7 H
 have i9 := zA g7
 clear g7
 have g8 := zA H
 clear H
 go_enter Tryz.func77, Tryz.ntmps77
 go_upto_region 2 with (first | ((with_reducible refine gate_dst (N := 12) rfl ?_); refine zNl k75 75 12 (xs := ([] : List (S75))) (inner := []) (ok := (fun k_ => (w.heap.size ≤ k_))) ((Reps.none _ _)) (fun k_ hk => (Nat.le_trans (below_size (zB)) hk)) ?_; intro b8 w3 f7 hb hg_ hnew_; clear hg_ hnew_; (first | rw [← i9.out] at f7 | (simp only [Int.reduceToNat] at f7; rw [← i9.out] at f7)); have j2 := zA (Kd.N_lower f7 (below_size (zB))); replace HB := zA (below_step (zB) hb); clear hb f7))
 (try simp only [Act.put, zT])
 go_cut [21] (fun r9 wc => ∃ (kq : Nat) (g9 : Bool), r9 = .bool g9 ∧ Aside0 (spec_l4List.j0 kq l0 d0 g9 = some (r1, r2)) ∧ Aside0 (kq ≤ k) ∧ Aside0 (Kd.N k75 75 wc w.heap.size (fun k_ => (w.heap.size ≤ k_)) b8 d0) ∧ Aside0 (Below w.heap.size w wc))
 case first =>
  have H := g8.out
  clear g8
  replace H := zI1 H
  rcases H with ⟨c5, H⟩ | ⟨c5, H⟩
  ·have e0 := beq_iff_eq.mpr c5
   have g2 := bne_eq_false_iff_eq.mpr c5
   clear c5
   (first | rw [e0] | (simp only [i64_w, i32_w]; rw [e0]) | skip)
   replace H := zC0 H
   obtain ⟨c6, H⟩ := H
   have h0 := decide_eq_true c6
   have h1 : decide (1 < l0.length) = true := decide_eq_true (by omega)
   clear c6
   have H' := zA H
   clear H
   have e5 : 0 ≤ (1 : Int) := (by omega)
   have e6 : 1 < (l0.length : Int) := zD
   obtain ⟨x9, t0, e2⟩ := Kd.at_string e1.out 1 e5 e6
   cases t0
   (try simp only [show (1 : Int).toNat = 1 from rfl, Nat.reduceMul, Nat.reduceEqDiff, Go.Addr.add, ↓reduceIte] at e2)
   have y0 : (1 < l0.length) = True := eq_true (by omega)
   (try rw [show ((1 : Int)).toNat = 1 from rfl] at e2)
   replace e2 := zx HB e2
   replace e5 := eq_true e5
   replace e6 := eq_true e6
   go_wp2
   go_meet
   case rel => exact ⟨_, (((rdOf ByteArray.empty l0 1).toList == ([45] : List UInt8))), zS, (by first | exact H' | (subst_vars; exact H')), ⟨by first | omega | exact Nat.le_refl _⟩, ⟨zN j2.out⟩, ⟨zB⟩⟩
  ·have e0 := beq_eq_false_iff_ne.mpr c5
   have g2 := bne_iff_ne.mpr c5
   (first | rw [e0] | (simp only [i64_w, i32_w]; rw [e0]) | skip)
   have H' := zA H
   clear H
   go_wp2
   go_meet
   case rel => exact ⟨_, (false), zS, (by first | exact H' | (subst_vars; exact H')), ⟨by first | omega | exact Nat.le_refl _⟩, ⟨zN j2.out⟩, ⟨zB⟩⟩
 case rest =>
  clear g8
  try clear p2
  try clear p3
  try clear q3
  try clear hx3
  try clear qi3
  try clear c5
  try clear e0
  try clear g2
  try clear c6
  try clear h0
  try clear h1
  try clear e2
  try clear e5
  try clear e6
  obtain ⟨kq, g9, rfl, HA, h2, a0, HB⟩ := hcut
  cases kq with
  | zero => exact absurd HA.out (by simp [spec_l4List.j0])
  | succ f8 =>
   have H := HA.out
   clear HA
   simp only [spec_l4List.j0] at H
   have h3 := zA H
   clear H
   go_upto_if 21 with (fail)
   go_cut [] (fun wc => ∃ (kq : Nat), Aside0 (spec_l4List.j1 kq l0 d0 = some (r1, r2)) ∧ Aside0 (kq ≤ f8) ∧ Aside0 (Kd.N k75 75 wc w.heap.size (fun k_ => (w.heap.size ≤ k_)) b8 d0) ∧ Aside0 (Below w.heap.size w wc))
   case first =>
    have H := h3.out
    clear h3
    replace H := zB0 H
    rcases H with ⟨rfl, H⟩ | ⟨rfl, H⟩
    ·replace H := zC0 H
     obtain ⟨c9, H⟩ := H
     have g3 := decide_eq_true c9
     have j3 : decide (0 < l0.length) = true := decide_eq_true (by omega)
     clear c9
     (first | rw [g3] | (simp only [i64_w, i32_w]; rw [g3]) | skip)
     replace H := Option.bind_eq_some_iff.mp H
     obtain ⟨⟨b1, b2, b3, a7, t1⟩, j4, H⟩ := H
     try dsimp only at H
     have j5 := zA j4
     clear j4
     replace H := zC0 H
     obtain ⟨g4, H⟩ := H
     have j6 := decide_eq_true g4
     have j7 : decide (2 < l0.length) = true := decide_eq_true (by omega)
     clear g4
     replace H := Option.bind_eq_some_iff.mp H
     obtain ⟨⟨b4, b5, b6, a8, h4⟩, j8, H⟩ := H
     try dsimp only at H
     have j9 := zA j8
     clear j8
     obtain ⟨k0, h5⟩ : ∃ y_ : List (S75), y_ = (([(⟨4, (⟨b1, b2, b3, a7⟩ : S32)⟩ : S75), (⟨2, (⟨b4, b5, b6, a8⟩ : S32)⟩ : S75)] : List (S75))) := ⟨_, rfl⟩
     replace H : (if t1 = true then (some (k0, h4)) else (some (k0, false))) = some (r1, r2) := zY h5 H
     have g5 := zA h5
     clear h5
     replace H := zB0 H
     rcases H with ⟨rfl, H⟩ | ⟨rfl, H⟩
     ·simp only [zU] at H
      obtain ⟨rfl, rfl⟩ := H
      have d1 : 0 ≤ (0 : Int) := (by omega)
      have d2 : 0 < (l0.length : Int) := zD
      obtain ⟨b9, h6, c4⟩ := Kd.at_string e1.out 0 d1 d2
      cases h6
      have t2 : (0 < l0.length) = True := eq_true (by omega)
      (try rw [show ((0 : Int)).toNat = 0 from rfl] at c4)
      (try rw [Addr.add_zero'] at c4)
      replace c4 := zx HB c4
      replace d1 := eq_true d1
      replace d2 := eq_true d2
      go_wp2_with (first | ((with_reducible refine zq 124 ?_); refine zg (some 26) Tryz.func124 #[.string (rdOf ByteArray.empty l0 0)] ?_; (with_reducible refine (spec_ParseVer.calls f8 (rdOf ByteArray.empty l0 0) b1 b2 b3 a7 true _ j5.out).mono ?_); rintro e y1 ⟨t3, rfl, a6, hb⟩; refine ⟨_, rfl, ?_⟩; replace a0 := zA (Kd.N_elder' (zN a0.out) (Kd.R_base a6) hb); have a4 := zA (Kd.R_lower (Kd.R_newM (M := fun k_ => (w.heap.size ≤ k_)) a6 (below_size (zB)) (fun k_ h_ => h_)) (below_size (zB))); replace HB := zA (below_step (zB) hb); (try clear hb a6)) | ((with_reducible refine zd 5 ?_); refine ze 5 32 #[.int .i64 0, .int .i64 0, .int .i64 0, .slice none 0 0] ?_; intro a3 hg y2 hbox hb; replace a0 := zA (Kd.N_below (Kd.N_elderB (zN a0.out) a3 (Nat.le_of_eq hg.symm)) hb); replace a4 := zr a4 hb; have a1 := zA (hbox); have d3 := zi HB hg; have t4 := zi HB hg; replace HB := zA (below_step (zB) hb); clear hb hbox hg; obtain ⟨k1, k2, k4, k5, k6, k7, k8, k9⟩ := ze4 a1.out; obtain ⟨e7, e8, t5⟩ := Kd.R_slice a4.out; subst t5; have d4 : 0 ≤ (2 : Int) := (by omega); have d5 : 2 < (l0.length : Int) := zD; obtain ⟨h7, h8, a2⟩ := Kd.at_string e1.out 2 d4 d5; obtain rfl : b9 = h7 := (by injection h8); (try simp only [show (2 : Int).toNat = 2 from rfl, Nat.reduceMul, Nat.reduceEqDiff, Go.Addr.add, ↓reduceIte] at a2); have t6 : (2 < l0.length) = True := eq_true (by omega); (try rw [show ((2 : Int)).toNat = 2 from rfl] at a2); have d6 : b9.block ≠ a3 := Nat.ne_of_lt (Nat.lt_of_lt_of_le (by have := World.block_lt_of_cell? _ _ a2; first | rwa [add_block] at this | exact this) d3.out); have d7 : b9.block ≠ a3 := Nat.ne_of_lt (Nat.lt_of_lt_of_le (by have := World.block_lt_of_cell? _ _ a2; first | rwa [add_block] at this | exact this) d3.out); have d8 : b9.block ≠ a3 := Nat.ne_of_lt (Nat.lt_of_lt_of_le (by have := World.block_lt_of_cell? _ _ a2; first | rwa [add_block] at this | exact this) d3.out); have d9 : b9.block ≠ a3 := Nat.ne_of_lt (Nat.lt_of_lt_of_le (by have := World.block_lt_of_cell? _ _ a2; first | rwa [add_block] at this | exact this) d3.out); replace a2 := zx HB a2; replace a2 := (cell_far (p := ⟨a3, 0, none⟩) (by first | (rw [add_block]; exact d6) | (show (Addr.add _ _).block ≠ _; rw [add_block]; exact d6) | exact d6) (.int .i64 b1)).trans a2; replace a2 := (cell_far (p := ⟨a3, 1, none⟩) (by first | (rw [add_block]; exact d7) | (show (Addr.add _ _).block ≠ _; rw [add_block]; exact d7) | exact d7) (.int .i64 b2)).trans a2; replace a2 := (cell_far (p := ⟨a3, 2, none⟩) (by first | (rw [add_block]; exact d8) | (show (Addr.add _ _).block ≠ _; rw [add_block]; exact d8) | exact d8) (.int .i64 b3)).trans a2; replace a2 := (cell_far (p := ⟨a3, 3, none⟩) (by first | (rw [add_block]; exact d9) | (show (Addr.add _ _).block ≠ _; rw [add_block]; exact d9) | exact d9) (.slice e7 a7.length e8)).trans a2; clear d6; clear d7; clear d8; clear d9; replace d4 := eq_true d4; replace d5 := eq_true d5) | ((with_reducible refine zq 124 ?_); refine zg (some 33) Tryz.func124 #[.string (rdOf ByteArray.empty l0 2)] ?_; (with_reducible refine (spec_ParseVer.calls f8 (rdOf ByteArray.empty l0 2) b4 b5 b6 a8 h4 _ j9.out).mono ?_); rintro e y3 ⟨t7, rfl, a6, hb⟩; refine ⟨_, rfl, ?_⟩; replace a0 := zA (Kd.N_elder' (zNt (zn4 a0.out (fun _ hk => hk.2))) (Kd.R_base a6) hb); have b0 := zA (Kd.R_lower (Kd.R_new' (Kd.R_newM (M := fun k_ => (w.heap.size ≤ k_)) a6 (below_size (zW HB.out)) (fun k_ h_ => h_)) (Kd.R_lt (zR (zr4 a4.out a1.out)))) (below_size (zW HB.out))); replace a4 := zA (Kd.R_elder' (zR (zr4 a4.out a1.out)) (Kd.R_base a6) hb); replace a1 := zA (blk_below (zk4 a1.out) hb); replace HB := zh HB hb; (try clear hb a6)) | ((with_reducible refine zd 7 ?_); refine ze 7 32 #[.int .i64 0, .int .i64 0, .int .i64 0, .slice none 0 0] ?_; intro a9 hg t8 hbox hb; replace a0 := zA (Kd.N_below (Kd.N_elderB (zN a0.out) a9 (Nat.le_of_eq hg.symm)) hb); replace a4 := zr a4 hb; replace b0 := zr b0 hb; have a5 := zA (hbox); have t9 := zi HB hg; have v0 := zi HB hg; replace HB := zh HB hb; have h9 := zA (zL hg (zK a1.out)); have i0 := zA (zJ hg (zK a1.out)); replace a1 := zb a1 hb; clear hb hbox hg; have y4 := i0.out; have y5 := h9.out; obtain ⟨l1, l2, l3, l4, l5, l6, l7, l8⟩ := ze4 a5.out; obtain ⟨e9, f0, v1⟩ := Kd.R_slice b0.out; subst v1) | ((with_reducible refine gate_store (t := 32) (p := 7) rfl ?_); refine store_event (t := 32) (p := 7) (v := ?vo_w23) (w1 := ((((t8.setCell ⟨a9, 0, none⟩ (.int .i64 b4)).setCell ⟨a9, 1, none⟩ (.int .i64 b5)).setCell ⟨a9, 2, none⟩ (.int .i64 b6)).setCell ⟨a9, 3, none⟩ (.slice e9 a8.length f0))) ?hg ?ho ?hn ?hr ?_; (case ho => rfl); (case hg => rfl); (case hn => rfl); (case hr => first | (go_simp; done) | (go_simp; rfl)); intro i1 hw; replace a0 : Aside0 (Kd.N k75 75 i1 w.heap.size (fun k_ => (w.heap.size ≤ k_) ∧ some k_ ≠ (.slice e7 a7.length e8 : Value).ownBlock ∧ some k_ ≠ (.slice e9 a8.length f0 : Value).ownBlock ∧ k_ ≠ a3 ∧ k_ ≠ a9) b8 d0) := ⟨(by rw [hw]; exact (zNt (Kd.N_mono (zn4 a0.out (fun _ hk => hk.2)) (fun _ hk => ⟨hk.1.1.1.1, ⟨hk.1.1.1.2, ⟨hk.1.2, ⟨hk.1.1.2, hk.2⟩⟩⟩⟩))))⟩; replace a4 : Aside0 (Kd.R Kd.string 9 i1 w.heap.size (fun k_ => (w.heap.size ≤ k_) ∧ some k_ ≠ (.slice e9 a8.length f0 : Value).ownBlock) (.slice e7 a7.length e8) a7) := ⟨(by rw [hw]; exact (zR (Kd.R_mono (zr4 a4.out a5.out) (fun _ hk => ⟨hk.1.1, hk.2⟩))))⟩; replace b0 : Aside0 (Kd.R Kd.string 9 i1 w.heap.size (fun k_ => (w.heap.size ≤ k_) ∧ some k_ ≠ (.slice e7 a7.length e8 : Value).ownBlock) (.slice e9 a8.length f0) a8) := ⟨(by rw [hw]; exact (zR (Kd.R_mono (zr4 b0.out a5.out) (fun _ hk => ⟨hk.1.1, hk.2⟩))))⟩; replace a1 := zA (zh1 hw (zK a1.out)); replace a5 := zA (zh1 hw (zk4 a5.out)); replace HB := zA (zh2 hw (zW HB.out)); clear hw; obtain ⟨l9, m0, m1, m2, m3, m4, m5, m6⟩ := ze4 a1.out; obtain ⟨m7, m8, m9, n0, n1, n2, n3, n4⟩ := ze4 a5.out) | ((with_reducible refine gate_dst (N := 40) rfl ?_); refine zNl k75 75 40 (xs := ([(⟨4, (⟨b1, b2, b3, a7⟩ : S32)⟩ : S75), (⟨2, (⟨b4, b5, b6, a8⟩ : S32)⟩ : S75)] : List (S75))) (inner := [.int .i64 4, .int .i64 b1, .int .i64 b2, .int .i64 b3, .slice e7 a7.length e8, .int .i64 2, .int .i64 b4, .int .i64 b5, .int .i64 b6, .slice e9 a8.length f0]) (ok := (fun k_ => (w.heap.size ≤ k_) ∧ some k_ ≠ (b8 : Value).ownBlock ∧ k_ ≠ a3 ∧ k_ ≠ a9)) ((Reps.c5 (show Kd.FK k75 _ _ (⟨4, (⟨b1, b2, b3, a7⟩ : S32)⟩ : S75) [.int .i64 4, .int .i64 b1, .int .i64 b2, .int .i64 b3, .slice e7 a7.length e8] from (k75_mkF _ _ (⟨4, (⟨b1, b2, b3, a7⟩ : S32)⟩ : S75) (Kd.R_reads' (Kd.R_mono (ok' := (fun k_ => (w.heap.size ≤ k_) ∧ some k_ ≠ (b8 : Value).ownBlock ∧ k_ ≠ a3 ∧ k_ ≠ a9)) (Kd.R_types (Kd.R_types (Kd.R_apart' (a4.out) (Kd.N_typed a0.out) (by decide)) a1.out (by decide)) a5.out (by decide)) (fun k_ hk => ⟨hk.1.1.1.1, ⟨hk.1.1.2, ⟨hk.1.2, hk.2⟩⟩⟩))).2.1 (Kd.R_F (Kd.R_mono (ok' := (fun k_ => (w.heap.size ≤ k_) ∧ some k_ ≠ (b8 : Value).ownBlock ∧ k_ ≠ a3 ∧ k_ ≠ a9)) (Kd.R_types (Kd.R_types (Kd.R_apart' (a4.out) (Kd.N_typed a0.out) (by decide)) a1.out (by decide)) a5.out (by decide)) (fun k_ hk => ⟨hk.1.1.1.1, ⟨hk.1.1.2, ⟨hk.1.2, hk.2⟩⟩⟩))))) (Reps.c5 (show Kd.FK k75 _ _ (⟨2, (⟨b4, b5, b6, a8⟩ : S32)⟩ : S75) [.int .i64 2, .int .i64 b4, .int .i64 b5, .int .i64 b6, .slice e9 a8.length f0] from (k75_mkF _ _ (⟨2, (⟨b4, b5, b6, a8⟩ : S32)⟩ : S75) (Kd.R_reads' (Kd.R_mono (ok' := (fun k_ => (w.heap.size ≤ k_) ∧ some k_ ≠ (b8 : Value).ownBlock ∧ k_ ≠ a3 ∧ k_ ≠ a9)) (Kd.R_types (Kd.R_types (Kd.R_apart' (b0.out) (Kd.N_typed a0.out) (by decide)) a1.out (by decide)) a5.out (by decide)) (fun k_ hk => ⟨hk.1.1.1.1, ⟨hk.1.1.2, ⟨hk.1.2, hk.2⟩⟩⟩))).2.1 (Kd.R_F (Kd.R_mono (ok' := (fun k_ => (w.heap.size ≤ k_) ∧ some k_ ≠ (b8 : Value).ownBlock ∧ k_ ≠ a3 ∧ k_ ≠ a9)) (Kd.R_types (Kd.R_types (Kd.R_apart' (b0.out) (Kd.N_typed a0.out) (by decide)) a1.out (by decide)) a5.out (by decide)) (fun k_ hk => ⟨hk.1.1.1.1, ⟨hk.1.1.2, ⟨hk.1.2, hk.2⟩⟩⟩))))) (Reps.none _ _)))) (fun k_ hk => ⟨(Nat.le_trans (below_size (zW HB.out)) hk), Kd.fresh' (Kd.N_lt (zN a0.out)) k_ hk, Kd.freshB (zK a1.out) k_ hk, Kd.freshB (zK a5.out) k_ hk⟩) ?_; intro v2 y6 f1 hb hg_ hnew_; clear hg_ hnew_; (first | rw [← g5.out] at f1 | (simp only [Int.reduceToNat] at f1; rw [← g5.out] at f1)); replace a0 := zA (Kd.N_elder' (zN a0.out) (Kd.N_base f1) hb); have i2 := zA (Kd.N_lower f1 (below_size (zW HB.out))); replace a1 := zb a1 hb; replace a5 := zb a5 hb; replace HB := zh HB hb; clear a4 b0; clear hb f1))
      go_ret2
      exact ⟨_, zE, zNt (Kd.N_mono i2.out (fun _ hk => hk.1)), zW HB.out⟩
     ·simp only [zU] at H
      obtain ⟨rfl, rfl⟩ := H
      have d1 : 0 ≤ (0 : Int) := (by omega)
      have d2 : 0 < (l0.length : Int) := zD
      obtain ⟨b9, h6, c4⟩ := Kd.at_string e1.out 0 d1 d2
      cases h6
      have t2 : (0 < l0.length) = True := eq_true (by omega)
      (try rw [show ((0 : Int)).toNat = 0 from rfl] at c4)
      (try rw [Addr.add_zero'] at c4)
      replace c4 := zx HB c4
      replace d1 := eq_true d1
      replace d2 := eq_true d2
      go_wp2_with (first | ((with_reducible refine zq 124 ?_); refine zg (some 26) Tryz.func124 #[.string (rdOf ByteArray.empty l0 0)] ?_; (with_reducible refine (spec_ParseVer.calls f8 (rdOf ByteArray.empty l0 0) b1 b2 b3 a7 false _ j5.out).mono ?_); rintro e y7 ⟨t3, rfl, a6, hb⟩; refine ⟨_, rfl, ?_⟩; replace a0 := zA (Kd.N_elder' (zN a0.out) (Kd.R_base a6) hb); have a4 := zA (Kd.R_lower (Kd.R_newM (M := fun k_ => (w.heap.size ≤ k_)) a6 (below_size (zB)) (fun k_ h_ => h_)) (below_size (zB))); replace HB := zA (below_step (zB) hb); (try clear hb a6)) | ((with_reducible refine zd 5 ?_); refine ze 5 32 #[.int .i64 0, .int .i64 0, .int .i64 0, .slice none 0 0] ?_; intro a3 hg y8 hbox hb; replace a0 := zA (Kd.N_below (Kd.N_elderB (zN a0.out) a3 (Nat.le_of_eq hg.symm)) hb); replace a4 := zr a4 hb; have a1 := zA (hbox); have d3 := zi HB hg; have t4 := zi HB hg; replace HB := zA (below_step (zB) hb); clear hb hbox hg; obtain ⟨n5, n6, n7, n8, n9, o0, o1, o2⟩ := ze4 a1.out; obtain ⟨f2, f3, v3⟩ := Kd.R_slice a4.out; subst v3; have d4 : 0 ≤ (2 : Int) := (by omega); have d5 : 2 < (l0.length : Int) := zD; obtain ⟨h7, h8, a2⟩ := Kd.at_string e1.out 2 d4 d5; obtain rfl : b9 = h7 := (by injection h8); (try simp only [show (2 : Int).toNat = 2 from rfl, Nat.reduceMul, Nat.reduceEqDiff, Go.Addr.add, ↓reduceIte] at a2); have t6 : (2 < l0.length) = True := eq_true (by omega); (try rw [show ((2 : Int)).toNat = 2 from rfl] at a2); have d6 : b9.block ≠ a3 := Nat.ne_of_lt (Nat.lt_of_lt_of_le (by have := World.block_lt_of_cell? _ _ a2; first | rwa [add_block] at this | exact this) d3.out); have d7 : b9.block ≠ a3 := Nat.ne_of_lt (Nat.lt_of_lt_of_le (by have := World.block_lt_of_cell? _ _ a2; first | rwa [add_block] at this | exact this) d3.out); have d8 : b9.block ≠ a3 := Nat.ne_of_lt (Nat.lt_of_lt_of_le (by have := World.block_lt_of_cell? _ _ a2; first | rwa [add_block] at this | exact this) d3.out); have d9 : b9.block ≠ a3 := Nat.ne_of_lt (Nat.lt_of_lt_of_le (by have := World.block_lt_of_cell? _ _ a2; first | rwa [add_block] at this | exact this) d3.out); replace a2 := zx HB a2; replace a2 := (cell_far (p := ⟨a3, 0, none⟩) (by first | (rw [add_block]; exact d6) | (show (Addr.add _ _).block ≠ _; rw [add_block]; exact d6) | exact d6) (.int .i64 b1)).trans a2; replace a2 := (cell_far (p := ⟨a3, 1, none⟩) (by first | (rw [add_block]; exact d7) | (show (Addr.add _ _).block ≠ _; rw [add_block]; exact d7) | exact d7) (.int .i64 b2)).trans a2; replace a2 := (cell_far (p := ⟨a3, 2, none⟩) (by first | (rw [add_block]; exact d8) | (show (Addr.add _ _).block ≠ _; rw [add_block]; exact d8) | exact d8) (.int .i64 b3)).trans a2; replace a2 := (cell_far (p := ⟨a3, 3, none⟩) (by first | (rw [add_block]; exact d9) | (show (Addr.add _ _).block ≠ _; rw [add_block]; exact d9) | exact d9) (.slice f2 a7.length f3)).trans a2; clear d6; clear d7; clear d8; clear d9; replace d4 := eq_true d4; replace d5 := eq_true d5) | ((with_reducible refine zq 124 ?_); refine zg (some 33) Tryz.func124 #[.string (rdOf ByteArray.empty l0 2)] ?_; (with_reducible refine (spec_ParseVer.calls f8 (rdOf ByteArray.empty l0 2) b4 b5 b6 a8 h4 _ j9.out).mono ?_); rintro e y9 ⟨t7, rfl, a6, hb⟩; refine ⟨_, rfl, ?_⟩; replace a0 := zA (Kd.N_elder' (zNt (zn4 a0.out (fun _ hk => hk.2))) (Kd.R_base a6) hb); have b0 := zA (Kd.R_lower (Kd.R_new' (Kd.R_newM (M := fun k_ => (w.heap.size ≤ k_)) a6 (below_size (zW HB.out)) (fun k_ h_ => h_)) (Kd.R_lt (zR (zr4 a4.out a1.out)))) (below_size (zW HB.out))); replace a4 := zA (Kd.R_elder' (zR (zr4 a4.out a1.out)) (Kd.R_base a6) hb); replace a1 := zA (blk_below (zk4 a1.out) hb); replace HB := zh HB hb; (try clear hb a6)) | ((with_reducible refine zd 7 ?_); refine ze 7 32 #[.int .i64 0, .int .i64 0, .int .i64 0, .slice none 0 0] ?_; intro a9 hg v5 hbox hb; replace a0 := zA (Kd.N_below (Kd.N_elderB (zN a0.out) a9 (Nat.le_of_eq hg.symm)) hb); replace a4 := zr a4 hb; replace b0 := zr b0 hb; have a5 := zA (hbox); have t9 := zi HB hg; have v0 := zi HB hg; replace HB := zh HB hb; have h9 := zA (zL hg (zK a1.out)); have i0 := zA (zJ hg (zK a1.out)); replace a1 := zb a1 hb; clear hb hbox hg; have z0 := i0.out; have z1 := h9.out; obtain ⟨o3, o4, o5, o6, o7, o8, o9, p0⟩ := ze4 a5.out; obtain ⟨f4, f5, v6⟩ := Kd.R_slice b0.out; subst v6) | ((with_reducible refine gate_store (t := 32) (p := 7) rfl ?_); refine store_event (t := 32) (p := 7) (v := ?vo_w37) (w1 := ((((v5.setCell ⟨a9, 0, none⟩ (.int .i64 b4)).setCell ⟨a9, 1, none⟩ (.int .i64 b5)).setCell ⟨a9, 2, none⟩ (.int .i64 b6)).setCell ⟨a9, 3, none⟩ (.slice f4 a8.length f5))) ?hg ?ho ?hn ?hr ?_; (case ho => rfl); (case hg => rfl); (case hn => rfl); (case hr => first | (go_simp; done) | (go_simp; rfl)); intro i3 hw; replace a0 : Aside0 (Kd.N k75 75 i3 w.heap.size (fun k_ => (w.heap.size ≤ k_) ∧ some k_ ≠ (.slice f2 a7.length f3 : Value).ownBlock ∧ some k_ ≠ (.slice f4 a8.length f5 : Value).ownBlock ∧ k_ ≠ a3 ∧ k_ ≠ a9) b8 d0) := ⟨(by rw [hw]; exact (zNt (Kd.N_mono (zn4 a0.out (fun _ hk => hk.2)) (fun _ hk => ⟨hk.1.1.1.1, ⟨hk.1.1.1.2, ⟨hk.1.2, ⟨hk.1.1.2, hk.2⟩⟩⟩⟩))))⟩; replace a4 : Aside0 (Kd.R Kd.string 9 i3 w.heap.size (fun k_ => (w.heap.size ≤ k_) ∧ some k_ ≠ (.slice f4 a8.length f5 : Value).ownBlock) (.slice f2 a7.length f3) a7) := ⟨(by rw [hw]; exact (zR (Kd.R_mono (zr4 a4.out a5.out) (fun _ hk => ⟨hk.1.1, hk.2⟩))))⟩; replace b0 : Aside0 (Kd.R Kd.string 9 i3 w.heap.size (fun k_ => (w.heap.size ≤ k_) ∧ some k_ ≠ (.slice f2 a7.length f3 : Value).ownBlock) (.slice f4 a8.length f5) a8) := ⟨(by rw [hw]; exact (zR (Kd.R_mono (zr4 b0.out a5.out) (fun _ hk => ⟨hk.1.1, hk.2⟩))))⟩; replace a1 := zA (zh1 hw (zK a1.out)); replace a5 := zA (zh1 hw (zk4 a5.out)); replace HB := zA (zh2 hw (zW HB.out)); clear hw; obtain ⟨p1, p4, p5, p6, p7, p8, p9, q0⟩ := ze4 a1.out; obtain ⟨q1, q2, q4, q5, q6, q7, q8, q9⟩ := ze4 a5.out) | ((with_reducible refine gate_dst (N := 40) rfl ?_); refine zNl k75 75 40 (xs := ([(⟨4, (⟨b1, b2, b3, a7⟩ : S32)⟩ : S75), (⟨2, (⟨b4, b5, b6, a8⟩ : S32)⟩ : S75)] : List (S75))) (inner := [.int .i64 4, .int .i64 b1, .int .i64 b2, .int .i64 b3, .slice f2 a7.length f3, .int .i64 2, .int .i64 b4, .int .i64 b5, .int .i64 b6, .slice f4 a8.length f5]) (ok := (fun k_ => (w.heap.size ≤ k_) ∧ some k_ ≠ (b8 : Value).ownBlock ∧ k_ ≠ a3 ∧ k_ ≠ a9)) ((Reps.c5 (show Kd.FK k75 _ _ (⟨4, (⟨b1, b2, b3, a7⟩ : S32)⟩ : S75) [.int .i64 4, .int .i64 b1, .int .i64 b2, .int .i64 b3, .slice f2 a7.length f3] from (k75_mkF _ _ (⟨4, (⟨b1, b2, b3, a7⟩ : S32)⟩ : S75) (Kd.R_reads' (Kd.R_mono (ok' := (fun k_ => (w.heap.size ≤ k_) ∧ some k_ ≠ (b8 : Value).ownBlock ∧ k_ ≠ a3 ∧ k_ ≠ a9)) (Kd.R_types (Kd.R_types (Kd.R_apart' (a4.out) (Kd.N_typed a0.out) (by decide)) a1.out (by decide)) a5.out (by decide)) (fun k_ hk => ⟨hk.1.1.1.1, ⟨hk.1.1.2, ⟨hk.1.2, hk.2⟩⟩⟩))).2.1 (Kd.R_F (Kd.R_mono (ok' := (fun k_ => (w.heap.size ≤ k_) ∧ some k_ ≠ (b8 : Value).ownBlock ∧ k_ ≠ a3 ∧ k_ ≠ a9)) (Kd.R_types (Kd.R_types (Kd.R_apart' (a4.out) (Kd.N_typed a0.out) (by decide)) a1.out (by decide)) a5.out (by decide)) (fun k_ hk => ⟨hk.1.1.1.1, ⟨hk.1.1.2, ⟨hk.1.2, hk.2⟩⟩⟩))))) (Reps.c5 (show Kd.FK k75 _ _ (⟨2, (⟨b4, b5, b6, a8⟩ : S32)⟩ : S75) [.int .i64 2, .int .i64 b4, .int .i64 b5, .int .i64 b6, .slice f4 a8.length f5] from (k75_mkF _ _ (⟨2, (⟨b4, b5, b6, a8⟩ : S32)⟩ : S75) (Kd.R_reads' (Kd.R_mono (ok' := (fun k_ => (w.heap.size ≤ k_) ∧ some k_ ≠ (b8 : Value).ownBlock ∧ k_ ≠ a3 ∧ k_ ≠ a9)) (Kd.R_types (Kd.R_types (Kd.R_apart' (b0.out) (Kd.N_typed a0.out) (by decide)) a1.out (by decide)) a5.out (by decide)) (fun k_ hk => ⟨hk.1.1.1.1, ⟨hk.1.1.2, ⟨hk.1.2, hk.2⟩⟩⟩))).2.1 (Kd.R_F (Kd.R_mono (ok' := (fun k_ => (w.heap.size ≤ k_) ∧ some k_ ≠ (b8 : Value).ownBlock ∧ k_ ≠ a3 ∧ k_ ≠ a9)) (Kd.R_types (Kd.R_types (Kd.R_apart' (b0.out) (Kd.N_typed a0.out) (by decide)) a1.out (by decide)) a5.out (by decide)) (fun k_ hk => ⟨hk.1.1.1.1, ⟨hk.1.1.2, ⟨hk.1.2, hk.2⟩⟩⟩))))) (Reps.none _ _)))) (fun k_ hk => ⟨(Nat.le_trans (below_size (zW HB.out)) hk), Kd.fresh' (Kd.N_lt (zN a0.out)) k_ hk, Kd.freshB (zK a1.out) k_ hk, Kd.freshB (zK a5.out) k_ hk⟩) ?_; intro v2 z2 f6 hb hg_ hnew_; clear hg_ hnew_; (first | rw [← g5.out] at f6 | (simp only [Int.reduceToNat] at f6; rw [← g5.out] at f6)); replace a0 := zA (Kd.N_elder' (zN a0.out) (Kd.N_base f6) hb); have i2 := zA (Kd.N_lower f6 (below_size (zW HB.out))); replace a1 := zb a1 hb; replace a5 := zb a5 hb; replace HB := zh HB hb; clear a4 b0; clear hb f6))
      go_ret2
      exact ⟨_, zE, zNt (Kd.N_mono i2.out (fun _ hk => hk.1)), zW HB.out⟩
    ·have H' := zA H
     clear H
     go_wp2
     go_meet
     case rel => exact ⟨_, (by first | exact H' | (subst_vars; exact H')), ⟨by have := h2.out; first | omega | exact Nat.le_refl _⟩, ⟨zN a0.out⟩, ⟨zB⟩⟩
   case rest =>
    clear h3
    try clear c1
    try clear c2
    try clear p2
    try clear c3
    try clear p3
    try clear q3
    try clear hx3
    try clear qi3
    try clear c5
    try clear e0
    try clear g2
    try clear c6
    try clear h0
    try clear h1
    try clear c7
    try clear c8
    try clear c9
    try clear g3
    try clear j3
    try clear g4
    try clear j6
    try clear j7
    try clear c12
    try clear c13
    try clear c20
    try clear c34
    try clear p35
    try clear q35
    try clear hx35
    try clear qi35
    try clear p36
    try clear q36
    try clear hx36
    try clear qi36
    try clear k1 k2 k4 k5 k6 k7 k8 k9
    try clear l1 l2 l3 l4 l5 l6 l7 l8
    try clear l9 m0 m1 m2 m3 m4 m5 m6
    try clear m7 m8 m9 n0 n1 n2 n3 n4
    try clear n5 n6 n7 n8 n9 o0 o1 o2
    try clear o3 o4 o5 o6 o7 o8 o9 p0
    try clear p1 p4 p5 p6 p7 p8 p9 q0
    try clear q1 q2 q4 q5 q6 q7 q8 q9
    try clear e2
    try clear c4
    try clear a2
    try clear p2
    try clear p3
    try clear e5
    try clear d1
    try clear d4
    try clear q3
    try clear e6
    try clear d2
    try clear d5
    obtain ⟨kq, HA, r0, a0, HB⟩ := hcut
    cases kq with
    | zero => exact absurd HA.out (by simp [spec_l4List.j1])
    | succ r3 =>
     have H := HA.out
     clear HA
     simp only [spec_l4List.j1] at H
     have H' := zA H
     clear H
     go_wp2
     go_loopg [4, 9] r3 (fun kq v4 v9 w' => ∃ (f9 : List (S75)) (b7 : Int), v9 = .int .i64 b7 ∧ Aside0 (spec_l4List.l0 kq l0 f9 b7 = some (r1, r2)) ∧ Aside0 (kq ≤ r3) ∧ Aside0 (Kd.N k75 75 w' w.heap.size (fun k_ => (w.heap.size ≤ k_)) v4 f9) ∧ Aside0 (Below w.heap.size w w'))
     case atStart => exact ⟨(d0), (0), zS, H', ⟨Nat.le_refl _⟩, ⟨zN a0.out⟩, ⟨zB⟩⟩
     case round =>
      clear H'
      try clear c1
      try clear c2
      try clear p2
      try clear c3
      try clear p3
      try clear q3
      try clear hx3
      try clear qi3
      try clear c5
      try clear e0
      try clear g2
      try clear c6
      try clear h0
      try clear h1
      try clear c7
      try clear c8
      try clear c9
      try clear g3
      try clear j3
      try clear g4
      try clear j6
      try clear j7
      try clear c12
      try clear c13
      try clear c20
      try clear c34
      try clear p35
      try clear q35
      try clear hx35
      try clear qi35
      try clear p36
      try clear q36
      try clear hx36
      try clear qi36
      try clear k1 k2 k4 k5 k6 k7 k8 k9
      try clear l1 l2 l3 l4 l5 l6 l7 l8
      try clear l9 m0 m1 m2 m3 m4 m5 m6
      try clear m7 m8 m9 n0 n1 n2 n3 n4
      try clear n5 n6 n7 n8 n9 o0 o1 o2
      try clear o3 o4 o5 o6 o7 o8 o9 p0
      try clear p1 p4 p5 p6 p7 p8 p9 q0
      try clear q1 q2 q4 q5 q6 q7 q8 q9
      try clear e2
      try clear c4
      try clear a2
      try clear p2
      try clear p3
      try clear p35
      try clear e5
      try clear d1
      try clear p36
      try clear d4
      try clear q3
      try clear q35
      try clear e6
      try clear d2
      try clear q36
      try clear d5
      obtain ⟨f9, b7, rfl, HA, r4, a0, HB⟩ := hrel
      cases gk with
      | zero => exact absurd HA.out (by simp [spec_l4List.l0])
      | succ k3 =>
       have H := HA.out
       clear HA
       simp only [spec_l4List.l0] at H
       replace H := zI0 H
       rcases H with ⟨v7, H⟩ | ⟨v7, H⟩
       ·replace H := zD0 H
        obtain ⟨z3, H⟩ := H
        replace H := Option.bind_eq_some_iff.mp H
        obtain ⟨⟨g6, z4⟩, r5, H⟩ := H
        try dsimp only at H
        have r6 := zA r5
        clear r5
        replace H := zB0 H
        rcases H with ⟨rfl, H⟩ | ⟨rfl, H⟩
        ·replace H := zC0 H
         obtain ⟨r7, H⟩ := H
         have v8 := zA r7
         clear r7
         obtain ⟨r8, i4⟩ : ∃ y_ : List (S75), y_ = (f9 ++ g6) := ⟨_, rfl⟩
         replace H : (spec_l4List.l0 k3 l0 r8 (wrap64 (b7 + 1))) = some (r1, r2) := zY i4 H
         have x0 := zA i4
         clear i4
         have H' := zA H
         clear H
         have e3 : 0 ≤ (b7 : Int) := zD
         have e4 : b7 < (l0.length : Int) := zD
         obtain ⟨x1, i5, g0⟩ := Kd.at_string e1.out b7 e3 e4
         cases i5
         replace g0 := zx HB g0
         replace e3 := eq_true e3
         replace e4 := eq_true e4
         go_wp2_with (first | ((with_reducible refine zq 125 ?_); refine zg (some 56) Tryz.func125 #[.string (rdOf ByteArray.empty l0 b7)] ?_; (with_reducible refine (spec_l4Word.calls k3 (rdOf ByteArray.empty l0 b7) g6 true _ r6.out).mono ?_); rintro e z5 ⟨x2, rfl, a6, hb⟩; refine ⟨_, rfl, ?_⟩; have g1 := zA (Kd.N_lower (Kd.N_mono (ok' := fun k_ => (w.heap.size ≤ k_) ∧ some k_ ≠ (u4 : Value).ownBlock) a6 (fun k_ hk_ => ⟨(Nat.le_trans (below_size (zB)) hk_), (Kd.fresh' (Kd.N_lt (zN a0.out)) k_ hk_)⟩)) (below_size (zB))); replace a0 := zA (Kd.N_elder' (zN a0.out) (Kd.N_base a6) hb); replace HB := zA (below_step (zB) hb); (try clear hb a6); obtain ⟨z6, z7, x3⟩ := Kd.N_slice g1.out; subst x3) | ((with_reducible refine gate_builtin (b := .append) (xs := #[.tmp 62, .tmp 63]) rfl ?_); at_builtin; refine Kd.N_append_rows k75 (w0 := w) w.heap.size rfl (.tmp 62) (.tmp 63) 108 75 (.agg #[(.int .i64 0), (.int .i64 0), (.int .i64 0), (.int .i64 0), (.slice none 0 0)]) 56 rfl Tryz.underlying108 info75 rfl (by decide) (by omega) u4 f9 g6 _ _ _ (fun k_ => (w.heap.size ≤ k_)) (fun k_ => ((fun k_ => (w.heap.size ≤ k_))) k_ ∧ some k_ ≠ (u4 : Value).ownBlock) rfl rfl ?aO ?aR (fun _ hk => hk) ?aF ?aB ?aS ?aL ?_; (case aR => exact (by skip; exact Kd.N_F (g1.out))); (case aB => exact (zB)); (case aF => exact (fun k_ hk => (Nat.le_trans (below_size (zB)) hk))); (case aO => exact (zNt (Kd.N_mono a0.out (fun _ hk => hk.1)))); (case aS => exact (below_size (zB))); (case aL => have := v8.out; omega); intro z8 z9 ho hb hg hat; rw [← x0.out] at ho; replace g1 := zA (Kd.N_afterv (ok := (fun k_ => (w.heap.size ≤ k_))) (zN g1.out) hg hat); replace HB := zA (hb); have x4 := zA (ho); clear a0; clear ho hb hg hat))
         go_roundg k3
         case measure => have := h2.out; have := r0.out; have := r4.out; omega
         case rel => exact ⟨(r8), (wrap64 (b7 + 1)), zS, H', ⟨by have := h2.out; have := r0.out; have := r4.out; omega⟩, ⟨zN x4.out⟩, ⟨zB⟩⟩
        ·simp only [zU] at H
         obtain ⟨rfl, rfl⟩ := H
         have e3 : 0 ≤ (b7 : Int) := zD
         have e4 : b7 < (l0.length : Int) := zD
         obtain ⟨x1, i5, g0⟩ := Kd.at_string e1.out b7 e3 e4
         cases i5
         replace g0 := zx HB g0
         replace e3 := eq_true e3
         replace e4 := eq_true e4
         go_wp2_with (first | ((with_reducible refine zq 125 ?_); refine zg (some 56) Tryz.func125 #[.string (rdOf ByteArray.empty l0 b7)] ?_; (with_reducible refine (spec_l4Word.calls k3 (rdOf ByteArray.empty l0 b7) g6 false _ r6.out).mono ?_); rintro e A1 ⟨x2, rfl, a6, hb⟩; refine ⟨_, rfl, ?_⟩; have g1 := zA (Kd.N_lower (Kd.N_mono (ok' := fun k_ => (w.heap.size ≤ k_) ∧ some k_ ≠ (u4 : Value).ownBlock) a6 (fun k_ hk_ => ⟨(Nat.le_trans (below_size (zB)) hk_), (Kd.fresh' (Kd.N_lt (zN a0.out)) k_ hk_)⟩)) (below_size (zB))); replace a0 := zA (Kd.N_elder' (zN a0.out) (Kd.N_base a6) hb); replace HB := zA (below_step (zB) hb); (try clear hb a6)))
         go_ret2
         exact ⟨_, zE, zNt (Kd.N_mono a0.out (fun _ hk => hk.1)), zB⟩
       ·simp only [zU] at H
        obtain ⟨rfl, rfl⟩ := H
        obtain ⟨A2, A3, x5⟩ := Kd.N_slice a0.out
        subst x5
        go_wp2
        go_ret2
        exact ⟨_, zE, zN a0.out, zB⟩
/-! ### spec_l4Trim: function 79 -/
mutual
def spec_l4Trim.j1 : Nat → ByteArray → Option (ByteArray)
 | 0, _ => none
 | k + 1, x0 => spec_l4Trim.l1 k x0
def spec_l4Trim.l1 : Nat → ByteArray → Option (ByteArray)
 | 0, _ => none
 | k + 1, x0 => if (x0.size : Int) > 0 then (if 0 ≤ (wrap64 ((x0.size : Int) - 1)) then (if (wrap64 ((x0.size : Int) - 1)) < (x0.size : Int) then (if (bt x0 (wrap64 ((x0.size : Int) - 1))) = 32 then (if (wrap64 ((x0.size : Int) - 1)) ≤ (x0.size : Int) then (spec_l4Trim.l1 k (x0.extract 0 ((wrap64 ((x0.size : Int) - 1)) : Int).toNat)) else (none)) else (some x0)) else (none)) else (none)) else (some x0)
def spec_l4Trim.l0 : Nat → ByteArray → Option (ByteArray)
 | 0, _ => none
 | k + 1, x0 => if (x0.size : Int) > 0 then (if 0 < (x0.size : Int) then (if (bt x0 0) = 32 then (if 1 ≤ (x0.size : Int) then (spec_l4Trim.l0 k (x0.extract 1 x0.size)) else (none)) else (spec_l4Trim.j1 k x0)) else (none)) else (spec_l4Trim.j1 k x0)
end
def spec_l4Trim.f (k : Nat) (a0 : ByteArray) : Option (ByteArray) := spec_l4Trim.l0 k a0
theorem spec_l4Trim.calls (k : Nat) (a0 r : ByteArray) (w : World) (h : spec_l4Trim.f k a0 = some r) :
  Calls Tryz.prog 79 #[.string a0] w fun e w' => e = .returned (.string r) ∧ Drawn0 w w' := by
 unfold spec_l4Trim.f at h
 have H := h
 clear h
 have b0 := zA H
 clear H
 go_enter Tryz.func79, Tryz.ntmps79
 go_upto_block 0 with (fail)
 go_cut [0] (fun v0 wc => ∃ (kq : Nat) (a1 : ByteArray), v0 = .string a1 ∧ Aside0 (spec_l4Trim.j1 kq a1 = some r) ∧ Aside0 (kq ≤ k) ∧ Drawn0 w wc)
 case first =>
  have H := b0.out
  clear b0
  have H' := zA H
  clear H
  go_wp2
  go_loopg [0] k (fun kq v0 w' => ∃ (a1 : ByteArray), v0 = .string a1 ∧ Aside0 (spec_l4Trim.l0 kq a1 = some r) ∧ Aside0 (kq ≤ k) ∧ Drawn0 w w')
  case atStart => exact ⟨(a0), zS, H', ⟨Nat.le_refl _⟩, by repeat (first | exact Drawn0.refl _ | apply Drawn0.step)⟩
  case round =>
   clear H'
   try clear p2
   obtain ⟨a1, rfl, HA, a9, ⟨m1, rfl⟩⟩ := hrel
   cases gk with
   | zero => exact absurd HA.out (by simp [spec_l4Trim.l0])
   | succ k1 =>
    have H := HA.out
    clear HA
    simp only [spec_l4Trim.l0] at H
    replace H := zI1 H
    rcases H with ⟨c3, H⟩ | ⟨c3, H⟩
    ·have a4 : decide (0 < (a1.size : Int)) = true := decide_eq_true c3
     have b1 : decide (0 < a1.size) = true := decide_eq_true (by omega)
     clear c3
     (first | rw [a4] | (simp only [i64_w, i32_w]; rw [a4]) | skip)
     replace H := zC0 H
     obtain ⟨c4, H⟩ := H
     have b7 := decide_eq_true c4
     have b8 : decide (0 < a1.size) = true := decide_eq_true (by omega)
     clear c4
     replace H := zI1 H
     rcases H with ⟨c6, H⟩ | ⟨c6, H⟩
     ·have b2 := beq_iff_eq.mpr c6
      have b3 := bne_eq_false_iff_eq.mpr c6
      clear c6
      replace H := zC0 H
      obtain ⟨c7, H⟩ := H
      have b9 := eq_true c7
      have c0 := decide_eq_true c7
      clear c7
      have H' := zA H
      clear H
      have p5 : 0 ≤ (0 : Int) := (by omega)
      have q5 : 0 < a1.size := (by have : (0 : Int) < (a1.size : Int) := zD; omega)
      have b4 : ∀ h : 0 < a1.size, ((a1[0]'h).toNat : Int) = bt a1 0 := bt_at a1 0
      clear p5
      have b5 : (0 < (a1.size : Int)) = True := eq_true (zD)
      replace q5 := eq_true q5
      go_wp2
      go_roundg k1
      case measure => have := a9.out; omega
      case rel => exact ⟨(a1.extract 1 a1.size), zS, H', ⟨by have := a9.out; omega⟩, by repeat (first | exact Drawn0.refl _ | apply Drawn0.step)⟩
     ·have b2 := beq_eq_false_iff_ne.mpr c6
      have b3 := bne_iff_ne.mpr c6
      have H' := zA H
      clear H
      have p5 : 0 ≤ (0 : Int) := (by omega)
      have q5 : 0 < a1.size := (by have : (0 : Int) < (a1.size : Int) := zD; omega)
      have b4 : ∀ h : 0 < a1.size, ((a1[0]'h).toNat : Int) = bt a1 0 := bt_at a1 0
      clear p5
      have b5 : (0 < (a1.size : Int)) = True := eq_true (zD)
      replace q5 := eq_true q5
      go_wp2
      go_meet
      case rel => exact ⟨_, (a1), zS, (by first | exact H' | (subst_vars; exact H')), ⟨by have := a9.out; first | omega | exact Nat.le_refl _⟩, by repeat (first | exact Drawn0.refl _ | apply Drawn0.step)⟩
    ·have a4 : decide (0 < (a1.size : Int)) = false := decide_eq_false c3
     have b1 : decide (0 < a1.size) = false := decide_eq_false (by omega)
     clear c3
     (first | rw [a4] | (simp only [i64_w, i32_w]; rw [a4]) | skip)
     have H' := zA H
     clear H
     go_wp2
     go_meet
     case rel => exact ⟨_, (a1), zS, (by first | exact H' | (subst_vars; exact H')), ⟨by have := a9.out; first | omega | exact Nat.le_refl _⟩, by repeat (first | exact Drawn0.refl _ | apply Drawn0.step)⟩
 case rest =>
  clear b0
  try clear p2
  try clear c3
  try clear a4
  try clear b1
  try clear c4
  try clear b7
  try clear b8
  try clear p5
  try clear q5
  try clear b4
  try clear b5
  try clear c6
  try clear b2
  try clear b3
  try clear c7
  try clear b9
  try clear c0
  try clear p2
  try clear p5
  try clear q5
  obtain ⟨kq, a1, rfl, HA, c2, ⟨d5, rfl⟩⟩ := hcut
  cases kq with
  | zero => exact absurd HA.out (by simp [spec_l4Trim.j1])
  | succ c5 =>
   have H := HA.out
   clear HA
   simp only [spec_l4Trim.j1] at H
   have H' := zA H
   clear H
   go_wp2
   go_loopg [0] c5 (fun kq v0 w' => ∃ (a2 : ByteArray), v0 = .string a2 ∧ Aside0 (spec_l4Trim.l1 kq a2 = some r) ∧ Aside0 (kq ≤ c5) ∧ Drawn0 w w')
   case atStart => exact ⟨(a1), zS, H', ⟨Nat.le_refl _⟩, by repeat (first | exact Drawn0.refl _ | apply Drawn0.step)⟩
   case round =>
    clear H'
    try clear c1
    try clear p2
    try clear c3
    try clear a4
    try clear b1
    try clear c4
    try clear b7
    try clear b8
    try clear p5
    try clear q5
    try clear b4
    try clear b5
    try clear c6
    try clear b2
    try clear b3
    try clear c7
    try clear b9
    try clear c0
    try clear p2
    try clear p5
    try clear q5
    obtain ⟨a2, rfl, HA, c9, ⟨m2, rfl⟩⟩ := hrel
    cases gk with
    | zero => exact absurd HA.out (by simp [spec_l4Trim.l1])
    | succ k2 =>
     have H := HA.out
     clear HA
     simp only [spec_l4Trim.l1] at H
     replace H := zI1 H
     rcases H with ⟨c8, H⟩ | ⟨c8, H⟩
     ·have d0 : decide (0 < (a2.size : Int)) = true := decide_eq_true c8
      have d1 : decide (0 < a2.size) = true := decide_eq_true (by omega)
      clear c8
      obtain ⟨a3, a6⟩ : ∃ j_ : Int, (wrap64 ((a2.size : Int) - 1)) = j_ := ⟨_, rfl⟩
      replace H : (if 0 ≤ (a3) then (if (a3) < (a2.size : Int) then (if (bt a2 (a3)) = 32 then (if (a3) ≤ (a2.size : Int) then (spec_l4Trim.l1 k2 (a2.extract 0 ((a3) : Int).toNat)) else (none)) else (some a2)) else (none)) else (none)) = some r := by first | (rw [a6] at H; exact H) | (simp only [a6] at H ⊢; exact H)
      have hji9w : (IntKind.i64.wrap ((a2.size : Int) - 1)) = a3 := (i64_w _).trans a6
      replace H := zD0 H
      obtain ⟨d6, H⟩ := H
      replace H := zD0 H
      obtain ⟨d7, H⟩ := H
      replace H := zI1 H
      rcases H with ⟨a5, H⟩ | ⟨a5, H⟩
      ·have d2 := beq_iff_eq.mpr a5
       have d3 := bne_eq_false_iff_eq.mpr a5
       clear a5
       have d8 := eq_true (zD : 0 ≤ (a3))
       replace H := zC0 H
       obtain ⟨b6, H⟩ := H
       have d9 := eq_true b6
       have e0 := decide_eq_true b6
       clear b6
       have H' := zA H
       clear H
       have a7 : 0 ≤ ((a3) : Int) := zD
       have a8 : (a3) < (a2.size : Int) := zD
       have d4 := bt_at a2 (a3)
       replace a7 := eq_true a7
       replace a8 := eq_true a8
       go_wp2
       go_roundg k2
       case measure => have := c2.out; have := c9.out; omega
       case rel => exact ⟨(a2.extract 0 ((a3) : Int).toNat), (by first | rfl | (simp; done) | (simp only [← a6] <;> (first | rfl | simp)) | (simp [*]; done)), H', ⟨by have := c2.out; have := c9.out; omega⟩, by repeat (first | exact Drawn0.refl _ | apply Drawn0.step)⟩
      ·have d2 := beq_eq_false_iff_ne.mpr a5
       have d3 := bne_iff_ne.mpr a5
       obtain rfl := zm H
       have a7 : 0 ≤ ((a3) : Int) := zD
       have a8 : (a3) < (a2.size : Int) := zD
       have d4 := bt_at a2 (a3)
       replace a7 := eq_true a7
       replace a8 := eq_true a8
       go_wp2
       go_ret
       exact ⟨by first | rfl | (simp; done) | (simp only [← a6] <;> (first | rfl | simp)) | (simp [*]; done), by repeat (first | exact Drawn0.refl _ | apply Drawn0.step)⟩
     ·have d0 : decide (0 < (a2.size : Int)) = false := decide_eq_false c8
      have d1 : decide (0 < a2.size) = false := decide_eq_false (by omega)
      clear c8
      obtain rfl := zm H
      go_wp2
      go_ret
      exact ⟨by first | rfl | (simp; done) | (simp [*]; done) | (simp; rw [Bool.eq_iff_iff]; simp; done), by repeat (first | exact Drawn0.refl _ | apply Drawn0.step)⟩
/-! ### spec_l4Good: function 80 -/
def spec_l4Good.l0 : Nat → List (S75) → Int → Option (Bool)
 | 0, _, _ => none
 | k + 1, x0, x3 => if x3 < (x0.length : Int) then (if 0 ≤ x3 then ((spec_VerOk.f k ((rd_T75 x0 x3).f1.f0) ((rd_T75 x0 x3).f1.f1) ((rd_T75 x0 x3).f1.f2) ((rd_T75 x0 x3).f1.f3)).bind fun a0 => (if a0 = true then (spec_l4Good.l0 k x0 (wrap64 (x3 + 1))) else (some false))) else (none)) else (some true)
def spec_l4Good.f (k : Nat) (l0 : List (S75)) : Option (Bool) := spec_l4Good.l0 k l0 0
theorem spec_l4Good.calls (k : Nat) (A0 : Option Addr) (c0 : Nat) (l0 : List (S75)) (r : Bool) (w : World) (b5 : Kd.C k75 w A0 l0.length l0) (b6 : l0.length ≤ c0) (h : spec_l4Good.f k l0 = some r) :
  Calls Tryz.prog 80 #[.slice A0 l0.length c0] w fun e w' => e = .returned (.bool r) ∧ Below w.heap.size w w' := by
 have c3 := Tryz.underlying32
 have b7 := zA b5
 have c4 := zA b6
 clear b5 b6
 have HB := zA (Below.refl w.heap.size w)
 unfold spec_l4Good.f at h
 have H := h
 clear h
 have H' := zA H
 clear H
 go_enter Tryz.func80, Tryz.ntmps80
 go_wp2
 go_loopg [3] k (fun kq v3 w' => ∃ (a0 : Int), v3 = .int .i64 a0 ∧ Aside0 (spec_l4Good.l0 kq l0 a0 = some r) ∧ Aside0 (kq ≤ k) ∧ Aside0 (Below w.heap.size w w'))
 case atStart => exact ⟨(0), zS, H', ⟨Nat.le_refl _⟩, ⟨zB⟩⟩
 case round =>
  clear H'
  obtain ⟨a0, rfl, HA, b8, HB⟩ := hrel
  cases gk with
  | zero => exact absurd HA.out (by simp [spec_l4Good.l0])
  | succ k1 =>
   have H := HA.out
   clear HA
   simp only [spec_l4Good.l0] at H
   replace H := zI0 H
   rcases H with ⟨c1, H⟩ | ⟨c1, H⟩
   ·replace H := zD0 H
    obtain ⟨c5, H⟩ := H
    replace H := Option.bind_eq_some_iff.mp H
    obtain ⟨c6, b9, H⟩ := H
    try dsimp only at H
    have A4 := zA b9
    clear b9
    replace H := zB0 H
    rcases H with ⟨rfl, H⟩ | ⟨rfl, H⟩
    ·have H' := zA H
     clear H
     have a1 : 0 ≤ (a0 : Int) := zD
     have a2 : a0 < (l0.length : Int) := zD
     obtain ⟨c2, b0, b1, b2, a3, a4, a5, a6, a7, a8, a9⟩ := at_T75 b7.out a0 a1 a2
     cases b2
     replace a3 := zx HB a3
     replace a4 := zx HB a4
     replace a5 := zx HB a5
     replace a6 := zx HB a6
     replace a7 := zx HB a7
     have b3 := zA a9
     have b4 := zA a8
     clear a9 a8
     replace a1 := eq_true a1
     replace a2 := eq_true a2
     go_wp2_with (first | ((with_reducible refine zq 68 ?_); refine zg (some 15) Tryz.func68 #[.agg #[.int .i64 ((rd_T75 l0 a0).f1.f0), .int .i64 ((rd_T75 l0 a0).f1.f1), .int .i64 ((rd_T75 l0 a0).f1.f2), .slice b0 ((rd_T75 l0 a0).f1.f3).length b1]] ?_; (with_reducible refine (spec_VerOk.calls k1 ((rd_T75 l0 a0).f1.f0) ((rd_T75 l0 a0).f1.f1) ((rd_T75 l0 a0).f1.f2) _ _ ((rd_T75 l0 a0).f1.f3) true _ ?s1 ?s2 A4.out).mono ?_); (case s1 => exact zC (Kd.C_below b3.out HB.out)); (case s2 => exact b4.out); rintro e w6 ⟨rfl, hb⟩; refine ⟨_, rfl, ?_⟩; replace HB := zA (below_step (zB) hb); (try clear hb)))
     go_roundg k1
     case measure => have := b8.out; omega
     case rel => exact ⟨(wrap64 (a0 + 1)), zS, H', ⟨by have := b8.out; omega⟩, ⟨zB⟩⟩
    ·obtain rfl := zm H
     have a1 : 0 ≤ (a0 : Int) := zD
     have a2 : a0 < (l0.length : Int) := zD
     obtain ⟨c2, b0, b1, b2, a3, a4, a5, a6, a7, a8, a9⟩ := at_T75 b7.out a0 a1 a2
     cases b2
     replace a3 := zx HB a3
     replace a4 := zx HB a4
     replace a5 := zx HB a5
     replace a6 := zx HB a6
     replace a7 := zx HB a7
     have b3 := zA a9
     have b4 := zA a8
     clear a9 a8
     replace a1 := eq_true a1
     replace a2 := eq_true a2
     go_wp2_with (first | ((with_reducible refine zq 68 ?_); refine zg (some 15) Tryz.func68 #[.agg #[.int .i64 ((rd_T75 l0 a0).f1.f0), .int .i64 ((rd_T75 l0 a0).f1.f1), .int .i64 ((rd_T75 l0 a0).f1.f2), .slice b0 ((rd_T75 l0 a0).f1.f3).length b1]] ?_; (with_reducible refine (spec_VerOk.calls k1 ((rd_T75 l0 a0).f1.f0) ((rd_T75 l0 a0).f1.f1) ((rd_T75 l0 a0).f1.f2) _ _ ((rd_T75 l0 a0).f1.f3) false _ ?s1 ?s2 A4.out).mono ?_); (case s1 => exact zC (Kd.C_below b3.out HB.out)); (case s2 => exact b4.out); rintro e w7 ⟨rfl, hb⟩; refine ⟨_, rfl, ?_⟩; replace HB := zA (below_step (zB) hb); (try clear hb)))
     go_ret
     exact ⟨zE, zB⟩
   ·obtain rfl := zm H
    go_wp2
    go_ret
    exact ⟨zE, zB⟩
/-! ### spec_ParseRange: function 31 -/
mutual
def spec_ParseRange.l0 : Nat → List (List (S75)) → List ByteArray → Int → Option ((List (List (S75))) × Bool)
 | 0, _, _, _ => none
 | k + 1, x4, x5, x6 => if x6 < (x5.length : Int) then (spec_ParseRange.j1 k x4 x5 x6) else (if (x4.length : Int) > 4 then (some ((([] : List (List (S75)))), false)) else (some (x4, true)))
def spec_ParseRange.j1 : Nat → List (List (S75)) → List ByteArray → Int → Option ((List (List (S75))) × Bool)
 | 0, _, _, _ => none
 | k + 1, x4, x5, x6 => if 0 ≤ x6 then (if x6 < (x5.length : Int) then ((spec_l4Trim.f k (rdOf ByteArray.empty x5 x6)).bind fun a1 => ((spec_Split.f k a1 32).bind fun a2 => ((spec_l4List.f k a2).bind fun a0 => (if a0.2 = true then ((spec_l4Good.f k a0.1).bind fun a3 => (if a3 = true then (if x4.length < 5864062014805 then (spec_ParseRange.l0 k (x4 ++ [a0.1]) x5 (wrap64 (x6 + 1))) else (none)) else (some ((([] : List (List (S75)))), false)))) else (some ((([] : List (List (S75)))), false)))))) else (none)) else (none)
end
def spec_ParseRange.f (k : Nat) (a0 : ByteArray) : Option ((List (List (S75))) × Bool) := (spec_l4Sides.f k a0).bind fun a1 => (spec_ParseRange.l0 k (([] : List (List (S75)))) a1 0)
theorem spec_ParseRange.calls (k : Nat) (a0 : ByteArray) (r1 : List (List (S75))) (r2 : Bool) (w : World) (h : spec_ParseRange.f k a0 = some (r1, r2)) :
  Calls Tryz.prog 31 #[.string a0] w fun e w' => ∃ e7 : Value, e = .returned (.tuple #[e7, .bool r2]) ∧ Kd.N (Kd.slice 75 k75) 108 w' w.heap.size (fun k_ => (w.heap.size ≤ k_)) e7 r1 ∧ Below w.heap.size w w' := by
 have HB := zA (Below.refl w.heap.size w)
 unfold spec_ParseRange.f at h
 have H := h
 clear h
 obtain ⟨e8, d0⟩ : ∃ y_ : List (List (S75)), y_ = (([] : List (List (S75)))) := ⟨_, rfl⟩
 replace H : ((spec_l4Sides.f k a0).bind fun a5 => (spec_ParseRange.l0 k e8 a5 0)) = some (r1, r2) := zY d0 H
 have e9 := zA d0
 clear d0
 replace H := Option.bind_eq_some_iff.mp H
 obtain ⟨a5, c4, H⟩ := H
 try dsimp only at H
 have A2 := zA c4
 clear c4
 have H' := zA H
 clear H
 go_enter Tryz.func31, Tryz.ntmps31
 go_wp2_with (first | ((with_reducible refine gate_dst (N := 9) rfl ?_); refine zNl (Kd.slice 75 k75) 108 9 (xs := ([] : List (List (S75)))) (inner := []) (ok := (fun k_ => (w.heap.size ≤ k_))) ((Reps.none _ _)) (fun k_ hk => (Nat.le_trans (below_size (zB)) hk)) ?_; intro i9 w3 c5 hb hg_ hnew_; clear hg_ hnew_; (first | rw [← e9.out] at c5 | (simp only [Int.reduceToNat] at c5; rw [← e9.out] at c5)); have d1 := zA (Kd.N_lower c5 (below_size (zB))); replace HB := zA (below_step (zB) hb); clear hb c5) | ((with_reducible refine zq 76 ?_); refine zg (some 11) Tryz.func76 #[.string a0] ?_; (with_reducible refine (spec_l4Sides.calls k a0 a5 _ A2.out).mono ?_); rintro e w5 ⟨f0, rfl, a4, hb⟩; refine ⟨_, rfl, ?_⟩; replace d1 := zA (Kd.N_elder' (zN d1.out) (Kd.R_base a4) hb); have g5 := zA (Kd.R_lower (Kd.R_newM (M := fun k_ => (w.heap.size ≤ k_)) a4 (below_size (zB)) (fun k_ h_ => h_)) (below_size (zB))); replace HB := zA (below_step (zB) hb); (try clear hb a4)))
 go_loopg [4, 6] k (fun kq v4 v6 w' => ∃ (b0 : List (List (S75))) (a6 : Int), v6 = .int .i64 a6 ∧ Aside0 (spec_ParseRange.l0 kq b0 a5 a6 = some (r1, r2)) ∧ Aside0 (kq ≤ k) ∧ Aside0 (Kd.N (Kd.slice 75 k75) 108 w' w.heap.size (fun k_ => (w.heap.size ≤ k_) ∧ some k_ ≠ (f0 : Value).ownBlock) v4 b0) ∧ Aside0 (Kd.R Kd.string 9 w' w.heap.size (fun k_ => (w.heap.size ≤ k_)) f0 a5) ∧ Aside0 (Below w.heap.size w w'))
 case atStart => exact ⟨(e8), (0), zS, H', ⟨Nat.le_refl _⟩, ⟨zN d1.out⟩, ⟨zR (Kd.R_mono g5.out (fun _ hk => hk.1))⟩, ⟨zB⟩⟩
 case round =>
  clear H'
  try clear p2
  try clear c3
  obtain ⟨b0, a6, rfl, HA, d2, a2, a1, HB⟩ := hrel
  cases gk with
  | zero => exact absurd HA.out (by simp [spec_ParseRange.l0])
  | succ k1 =>
   have H := HA.out
   clear HA
   simp only [spec_ParseRange.l0] at H
   have d3 := zA H
   clear H
   obtain ⟨d4, b1, g6⟩ := Kd.R_slice a1.out
   subst g6
   go_upto_if 15 with (fail)
   go_cut [] (fun wc => ∃ (kq : Nat), Aside0 (spec_ParseRange.j1 kq b0 a5 a6 = some (r1, r2)) ∧ Aside0 (kq ≤ k1) ∧ Aside0 (Kd.N (Kd.slice 75 k75) 108 wc w.heap.size (fun k_ => (w.heap.size ≤ k_) ∧ some k_ ≠ ((.slice d4 a5.length b1) : Value).ownBlock) u4 b0) ∧ Aside0 (Kd.R Kd.string 9 wc w.heap.size (fun k_ => (w.heap.size ≤ k_)) (.slice d4 a5.length b1) a5) ∧ Aside0 (Below w.heap.size w wc))
   case first =>
    have H := d3.out
    clear d3
    replace H := zI0 H
    rcases H with ⟨b9, H⟩ | ⟨b9, H⟩
    ·(first | rw [b9] | (simp only [i64_w, i32_w]; rw [b9]) | skip)
     have H' := zA H
     clear H
     go_wp2
     go_meet
     case rel => exact ⟨_, (by first | exact H' | (subst_vars; exact H')), ⟨by have := d2.out; first | omega | exact Nat.le_refl _⟩, ⟨zN a2.out⟩, ⟨zR a1.out⟩, ⟨zB⟩⟩
    ·(first | rw [b9] | (simp only [i64_w, i32_w]; rw [b9]) | skip)
     replace H := zI1 H
     rcases H with ⟨c9, H⟩ | ⟨c9, H⟩
     ·have f1 : decide (4 < (b0.length : Int)) = true := decide_eq_true c9
      have f2 : decide (4 < b0.length) = true := decide_eq_true (by omega)
      clear c9
      obtain ⟨g7, d5⟩ : ∃ y_ : List (List (S75)), y_ = (([] : List (List (S75)))) := ⟨_, rfl⟩
      replace H : (some (g7, false)) = some (r1, r2) := zY d5 H
      have f3 := zA d5
      clear d5
      simp only [zU] at H
      obtain ⟨rfl, rfl⟩ := H
      obtain ⟨g8, g9, h0⟩ := Kd.N_slice a2.out
      subst h0
      go_wp2_with (first | ((with_reducible refine gate_dst (N := 43) rfl ?_); refine zNl (Kd.slice 75 k75) 108 43 (xs := ([] : List (List (S75)))) (inner := []) (ok := (fun k_ => (w.heap.size ≤ k_) ∧ some k_ ≠ (.slice g8 b0.length g9 : Value).ownBlock ∧ some k_ ≠ (.slice d4 a5.length b1 : Value).ownBlock)) ((Reps.none _ _)) (fun k_ hk => ⟨(Nat.le_trans (below_size (zB)) hk), Kd.fresh' (Kd.N_lt (zN a2.out)) k_ hk, Kd.fresh' (Kd.R_lt (zR a1.out)) k_ hk⟩) ?_; intro j0 j2 c0 hb hg_ hnew_; clear hg_ hnew_; (first | rw [← f3.out] at c0 | (simp only [Int.reduceToNat] at c0; rw [← f3.out] at c0)); replace a2 := zA (Kd.N_elder' (zN a2.out) (Kd.N_base c0) hb); replace a1 := zr a1 hb; have h1 := zA (Kd.N_lower c0 (below_size (zB))); replace HB := zA (below_step (zB) hb); clear hb c0))
      go_ret2
      exact ⟨_, zE, zNt (Kd.N_mono h1.out (fun _ hk => hk.1)), zB⟩
     ·have f1 : decide (4 < (b0.length : Int)) = false := decide_eq_false c9
      have f2 : decide (4 < b0.length) = false := decide_eq_false (by omega)
      clear c9
      simp only [zU] at H
      obtain ⟨rfl, rfl⟩ := H
      obtain ⟨j3, j4, h2⟩ := Kd.N_slice a2.out
      subst h2
      go_wp2
      go_ret2
      exact ⟨_, zE, zNt (Kd.N_mono a2.out (fun _ hk => hk.1)), zB⟩
   case rest =>
    clear d3
    try clear p2
    try clear c3
    try clear c7
    try clear c8
    try clear b9
    try clear c9
    try clear f1
    try clear f2
    try clear p2
    obtain ⟨kq, HA, f4, a2, a1, HB⟩ := hcut
    cases kq with
    | zero => exact absurd HA.out (by simp [spec_ParseRange.j1])
    | succ a9 =>
     have H := HA.out
     clear HA
     simp only [spec_ParseRange.j1] at H
     replace H := zD0 H
     obtain ⟨j5, H⟩ := H
     replace H := zD0 H
     obtain ⟨j6, H⟩ := H
     replace H := Option.bind_eq_some_iff.mp H
     obtain ⟨b5, f5, H⟩ := H
     try dsimp only at H
     have d6 := zA f5
     clear f5
     replace H := Option.bind_eq_some_iff.mp H
     obtain ⟨a8, f6, H⟩ := H
     try dsimp only at H
     have d7 := zA f6
     clear f6
     replace H := Option.bind_eq_some_iff.mp H
     obtain ⟨⟨b6, j7⟩, f7, H⟩ := H
     try dsimp only at H
     have d8 := zA f7
     clear f7
     replace H := zB0 H
     rcases H with ⟨rfl, H⟩ | ⟨rfl, H⟩
     ·replace H := Option.bind_eq_some_iff.mp H
      obtain ⟨j8, f8, H⟩ := H
      try dsimp only at H
      have c4 := zA f8
      clear f8
      replace H := zB0 H
      rcases H with ⟨rfl, H⟩ | ⟨rfl, H⟩
      ·replace H := zC0 H
       obtain ⟨f9, H⟩ := H
       have h3 := zA f9
       clear f9
       obtain ⟨g0, d9⟩ : ∃ y_ : List (List (S75)), y_ = (b0 ++ [b6]) := ⟨_, rfl⟩
       replace H : (spec_ParseRange.l0 a9 g0 a5 (wrap64 (a6 + 1))) = some (r1, r2) := zY d9 H
       have h4 := zA d9
       clear d9
       have H' := zA H
       clear H
       have b2 : 0 ≤ (a6 : Int) := zD
       have b3 : a6 < (a5.length : Int) := zD
       obtain ⟨b4, c6, g1⟩ := Kd.at_string (Kd.R_reads' a1.out).2.2 a6 b2 b3
       cases c6
       replace b2 := eq_true b2
       replace b3 := eq_true b3
       go_wp2_with (first | ((with_reducible refine zq 79 ?_); refine zg (some 23) Tryz.func79 #[.string (rdOf ByteArray.empty a5 a6)] ?_; (with_reducible refine (spec_l4Trim.calls a9 (rdOf ByteArray.empty a5 a6) b5 _ d6.out).mono ?_); rintro e w' ⟨rfl, ⟨nd, rfl⟩⟩; refine ⟨_, rfl, ?_⟩) | ((with_reducible refine zq 78 ?_); refine zg (some 24) Tryz.func78 #[.string b5, .int .u8 32] ?_; (with_reducible refine (spec_Split.calls a9 b5 32 a8 _ d7.out).mono ?_); rintro e j9 ⟨g2, rfl, a4, hb⟩; refine ⟨_, rfl, ?_⟩; replace a2 := zA (Kd.N_elder' (zN a2.out) (Kd.R_base a4) hb); have a3 := zA (Kd.R_lower (Kd.R_new' (Kd.R_newM (M := fun k_ => (w.heap.size ≤ k_)) a4 (below_size (zB)) (fun k_ h_ => h_)) (Kd.R_lt (zR a1.out))) (below_size (zB))); replace a1 := zA (Kd.R_elder' (zR a1.out) (Kd.R_base a4) hb); replace HB := zA (below_step (zB) hb); (try clear hb a4); obtain ⟨c1, c2, h5⟩ := Kd.R_slice a3.out; subst h5) | ((with_reducible refine zq 77 ?_); refine zg (some 25) Tryz.func77 #[.slice c1 a8.length c2] ?_; (with_reducible refine (spec_l4List.calls a9 _ _ a8 b6 true _ ?s1 ?s2 d8.out).mono ?_); (case s1 => repeat (first | exact (Kd.R_reads' a3.out).2.2 | (with_reducible refine Kd.C_alloc ?_ _) | (with_reducible refine Kd.C_drewN ?_ _) | (with_reducible refine Kd.C_drew ?_))); (case s2 => exact (Kd.R_reads' a3.out).2.1); rintro e k0 ⟨e0, rfl, a4, hb⟩; refine ⟨_, rfl, ?_⟩; have a7 := zA (Kd.N_lower (Kd.N_mono (ok' := fun k_ => (w.heap.size ≤ k_) ∧ some k_ ≠ (u4 : Value).ownBlock ∧ some k_ ≠ (.slice (some b4) a5.length b1 : Value).ownBlock ∧ some k_ ≠ (.slice c1 a8.length c2 : Value).ownBlock) a4 (fun k_ hk_ => ⟨(Nat.le_trans (below_size (zB)) hk_), (Kd.fresh' (Kd.N_lt (zN a2.out)) k_ hk_), (Kd.fresh' (Kd.R_lt (zR a1.out)) k_ hk_), (Kd.fresh' (Kd.R_lt (zR a3.out)) k_ hk_)⟩)) (below_size (zB))); replace a2 := zA (Kd.N_elder' (zN a2.out) (Kd.N_base a4) hb); replace a1 := zr a1 hb; replace a3 := zr a3 hb; replace HB := zA (below_step (zB) hb); (try clear hb a4); obtain ⟨h6, h7, h8⟩ := Kd.N_slice a7.out; subst h8) | (go_at_call 80; (with_reducible refine (spec_l4Good.calls a9 _ _ b6 true _ ?s1 ?s2 c4.out).mono ?_); (case s1 => repeat (first | exact (Kd.N_reads' a7.out).2.2 | (with_reducible refine Kd.C_alloc ?_ _) | (with_reducible refine Kd.C_drewN ?_ _) | (with_reducible refine Kd.C_drew ?_))); (case s2 => exact (Kd.N_reads' a7.out).2.1); rintro e k2 ⟨rfl, hb⟩; replace a2 := zA (Kd.N_below (zN a2.out) hb); replace a1 := zr a1 hb; replace a3 := zr a3 hb; replace a7 := zA (Kd.N_below (zN a7.out) hb); replace HB := zA (below_step (zB) hb); (try clear hb)) | ((with_reducible refine gate_builtin (b := .append) (xs := #[.tmp 36, .tmp 38]) rfl ?_); at_builtin; refine Kd.N_append (Kd.slice 75 k75) (w0 := w) w.heap.size rfl (.tmp 36) (.tmp 38) 63 108 (.slice none 0 0) 24 rfl Tryz.underlying63 info108 rfl (by decide) (by omega) u4 b0 b6 [.slice h6 b6.length h7] (fun k_ => (w.heap.size ≤ k_) ∧ some k_ ≠ (.slice (some b4) a5.length b1 : Value).ownBlock ∧ some k_ ≠ (.slice c1 a8.length c2 : Value).ownBlock) (fun k_ => ((fun k_ => (w.heap.size ≤ k_) ∧ some k_ ≠ (.slice (some b4) a5.length b1 : Value).ownBlock ∧ some k_ ≠ (.slice c1 a8.length c2 : Value).ownBlock)) k_ ∧ some k_ ≠ (u4 : Value).ownBlock) rfl rfl ?aP (fun _ hk => hk) ?aF ?aO ?aB ?aS ?aL ?_; (case aP => exact (Kd.FK_slice_mk (Kd.N_reads' (Kd.N_mono (ok' := (fun k_ => ((fun k_ => (w.heap.size ≤ k_) ∧ some k_ ≠ (.slice (some b4) a5.length b1 : Value).ownBlock ∧ some k_ ≠ (.slice c1 a8.length c2 : Value).ownBlock)) k_ ∧ some k_ ≠ (u4 : Value).ownBlock)) (a7.out) (fun k_ hk => ⟨⟨hk.1, ⟨hk.2.2.1, hk.2.2.2⟩⟩, hk.2.1⟩))).2.1 (Kd.N_F (Kd.N_mono (ok' := (fun k_ => ((fun k_ => (w.heap.size ≤ k_) ∧ some k_ ≠ (.slice (some b4) a5.length b1 : Value).ownBlock ∧ some k_ ≠ (.slice c1 a8.length c2 : Value).ownBlock)) k_ ∧ some k_ ≠ (u4 : Value).ownBlock)) (a7.out) (fun k_ hk => ⟨⟨hk.1, ⟨hk.2.2.1, hk.2.2.2⟩⟩, hk.2.1⟩))))); (case aB => exact (zB)); (case aF => exact (fun k_ hk => ⟨(Nat.le_trans (below_size (zB)) hk), Kd.fresh' (Kd.R_lt (zR a1.out)) k_ hk, Kd.fresh' (Kd.R_lt (zR a3.out)) k_ hk⟩)); (case aO => exact (zNt (Kd.N_mono a2.out (fun _ hk => ⟨hk.1.1.1, ⟨hk.1.1.2, hk.1.2⟩⟩)))); (case aS => exact (below_size (zB))); (case aL => have := h3.out; omega); intro k3 k4 ho hb hg hat; rw [← h4.out] at ho; replace a1 := zA (Kd.R_over' (zR a1.out) (Kd.N_typed (zN a2.out)) (by decide) hg); replace a3 := zA (Kd.R_over' (zR a3.out) (Kd.N_typed (zN a2.out)) (by decide) hg); replace HB := zA (hb); have h9 := zA (ho); clear a2 a7; clear ho hb hg hat))
       go_roundg a9
       case measure => have := d2.out; have := f4.out; omega
       case rel => exact ⟨(g0), (wrap64 (a6 + 1)), zS, H', ⟨by have := d2.out; have := f4.out; omega⟩, ⟨zNt (Kd.N_mono h9.out (fun _ hk => ⟨hk.1, hk.2.1⟩))⟩, ⟨zR (Kd.R_mono a1.out (fun _ hk => hk.1))⟩, ⟨zB⟩⟩
      ·obtain ⟨i0, e1⟩ : ∃ y_ : List (List (S75)), y_ = (([] : List (List (S75)))) := ⟨_, rfl⟩
       replace H : (some (i0, false)) = some (r1, r2) := zY e1 H
       have g3 := zA e1
       clear e1
       simp only [zU] at H
       obtain ⟨rfl, rfl⟩ := H
       have b2 : 0 ≤ (a6 : Int) := zD
       have b3 : a6 < (a5.length : Int) := zD
       obtain ⟨b4, c6, g1⟩ := Kd.at_string (Kd.R_reads' a1.out).2.2 a6 b2 b3
       cases c6
       replace b2 := eq_true b2
       replace b3 := eq_true b3
       go_wp2_with (first | ((with_reducible refine zq 79 ?_); refine zg (some 23) Tryz.func79 #[.string (rdOf ByteArray.empty a5 a6)] ?_; (with_reducible refine (spec_l4Trim.calls a9 (rdOf ByteArray.empty a5 a6) b5 _ d6.out).mono ?_); rintro e w' ⟨rfl, ⟨nd, rfl⟩⟩; refine ⟨_, rfl, ?_⟩) | ((with_reducible refine zq 78 ?_); refine zg (some 24) Tryz.func78 #[.string b5, .int .u8 32] ?_; (with_reducible refine (spec_Split.calls a9 b5 32 a8 _ d7.out).mono ?_); rintro e k5 ⟨g2, rfl, a4, hb⟩; refine ⟨_, rfl, ?_⟩; replace a2 := zA (Kd.N_elder' (zN a2.out) (Kd.R_base a4) hb); have a3 := zA (Kd.R_lower (Kd.R_new' (Kd.R_newM (M := fun k_ => (w.heap.size ≤ k_)) a4 (below_size (zB)) (fun k_ h_ => h_)) (Kd.R_lt (zR a1.out))) (below_size (zB))); replace a1 := zA (Kd.R_elder' (zR a1.out) (Kd.R_base a4) hb); replace HB := zA (below_step (zB) hb); (try clear hb a4); obtain ⟨e2, e3, i1⟩ := Kd.R_slice a3.out; subst i1) | ((with_reducible refine zq 77 ?_); refine zg (some 25) Tryz.func77 #[.slice e2 a8.length e3] ?_; (with_reducible refine (spec_l4List.calls a9 _ _ a8 b6 true _ ?s1 ?s2 d8.out).mono ?_); (case s1 => repeat (first | exact (Kd.R_reads' a3.out).2.2 | (with_reducible refine Kd.C_alloc ?_ _) | (with_reducible refine Kd.C_drewN ?_ _) | (with_reducible refine Kd.C_drew ?_))); (case s2 => exact (Kd.R_reads' a3.out).2.1); rintro e k6 ⟨e0, rfl, a4, hb⟩; refine ⟨_, rfl, ?_⟩; have a7 := zA (Kd.N_lower (Kd.N_mono (ok' := fun k_ => (w.heap.size ≤ k_) ∧ some k_ ≠ (u4 : Value).ownBlock ∧ some k_ ≠ (.slice (some b4) a5.length b1 : Value).ownBlock ∧ some k_ ≠ (.slice e2 a8.length e3 : Value).ownBlock) a4 (fun k_ hk_ => ⟨(Nat.le_trans (below_size (zB)) hk_), (Kd.fresh' (Kd.N_lt (zN a2.out)) k_ hk_), (Kd.fresh' (Kd.R_lt (zR a1.out)) k_ hk_), (Kd.fresh' (Kd.R_lt (zR a3.out)) k_ hk_)⟩)) (below_size (zB))); replace a2 := zA (Kd.N_elder' (zN a2.out) (Kd.N_base a4) hb); replace a1 := zr a1 hb; replace a3 := zr a3 hb; replace HB := zA (below_step (zB) hb); (try clear hb a4); obtain ⟨i2, i3, i4⟩ := Kd.N_slice a7.out; subst i4) | (go_at_call 80; (with_reducible refine (spec_l4Good.calls a9 _ _ b6 false _ ?s1 ?s2 c4.out).mono ?_); (case s1 => repeat (first | exact (Kd.N_reads' a7.out).2.2 | (with_reducible refine Kd.C_alloc ?_ _) | (with_reducible refine Kd.C_drewN ?_ _) | (with_reducible refine Kd.C_drew ?_))); (case s2 => exact (Kd.N_reads' a7.out).2.1); rintro e k7 ⟨rfl, hb⟩; replace a2 := zA (Kd.N_below (zN a2.out) hb); replace a1 := zr a1 hb; replace a3 := zr a3 hb; replace a7 := zA (Kd.N_below (zN a7.out) hb); replace HB := zA (below_step (zB) hb); (try clear hb)) | ((with_reducible refine gate_dst (N := 35) rfl ?_); refine zNl (Kd.slice 75 k75) 108 35 (xs := ([] : List (List (S75)))) (inner := []) (ok := (fun k_ => (w.heap.size ≤ k_) ∧ some k_ ≠ (u4 : Value).ownBlock ∧ some k_ ≠ (.slice (some b4) a5.length b1 : Value).ownBlock ∧ some k_ ≠ (.slice e2 a8.length e3 : Value).ownBlock ∧ some k_ ≠ (.slice i2 b6.length i3 : Value).ownBlock)) ((Reps.none _ _)) (fun k_ hk => ⟨(Nat.le_trans (below_size (zB)) hk), Kd.fresh' (Kd.N_lt (zN a2.out)) k_ hk, Kd.fresh' (Kd.R_lt (zR a1.out)) k_ hk, Kd.fresh' (Kd.R_lt (zR a3.out)) k_ hk, Kd.fresh' (Kd.N_lt (zN a7.out)) k_ hk⟩) ?_; intro k8 k9 b7 hb hg_ hnew_; clear hg_ hnew_; (first | rw [← g3.out] at b7 | (simp only [Int.reduceToNat] at b7; rw [← g3.out] at b7)); replace a2 := zA (Kd.N_elder' (zN a2.out) (Kd.N_base b7) hb); replace a1 := zr a1 hb; replace a3 := zr a3 hb; replace a7 := zA (Kd.N_elder' (zN a7.out) (Kd.N_base b7) hb); have i5 := zA (Kd.N_lower b7 (below_size (zB))); replace HB := zA (below_step (zB) hb); clear hb b7))
       go_ret2
       exact ⟨_, zE, zNt (Kd.N_mono i5.out (fun _ hk => hk.1)), zB⟩
     ·obtain ⟨i6, e4⟩ : ∃ y_ : List (List (S75)), y_ = (([] : List (List (S75)))) := ⟨_, rfl⟩
      replace H : (some (i6, false)) = some (r1, r2) := zY e4 H
      have g4 := zA e4
      clear e4
      simp only [zU] at H
      obtain ⟨rfl, rfl⟩ := H
      have b2 : 0 ≤ (a6 : Int) := zD
      have b3 : a6 < (a5.length : Int) := zD
      obtain ⟨b4, c6, g1⟩ := Kd.at_string (Kd.R_reads' a1.out).2.2 a6 b2 b3
      cases c6
      replace b2 := eq_true b2
      replace b3 := eq_true b3
      go_wp2_with (first | ((with_reducible refine zq 79 ?_); refine zg (some 23) Tryz.func79 #[.string (rdOf ByteArray.empty a5 a6)] ?_; (with_reducible refine (spec_l4Trim.calls a9 (rdOf ByteArray.empty a5 a6) b5 _ d6.out).mono ?_); rintro e w' ⟨rfl, ⟨nd, rfl⟩⟩; refine ⟨_, rfl, ?_⟩) | ((with_reducible refine zq 78 ?_); refine zg (some 24) Tryz.func78 #[.string b5, .int .u8 32] ?_; (with_reducible refine (spec_Split.calls a9 b5 32 a8 _ d7.out).mono ?_); rintro e l1 ⟨g2, rfl, a4, hb⟩; refine ⟨_, rfl, ?_⟩; replace a2 := zA (Kd.N_elder' (zN a2.out) (Kd.R_base a4) hb); have a3 := zA (Kd.R_lower (Kd.R_new' (Kd.R_newM (M := fun k_ => (w.heap.size ≤ k_)) a4 (below_size (zB)) (fun k_ h_ => h_)) (Kd.R_lt (zR a1.out))) (below_size (zB))); replace a1 := zA (Kd.R_elder' (zR a1.out) (Kd.R_base a4) hb); replace HB := zA (below_step (zB) hb); (try clear hb a4); obtain ⟨e5, e6, i7⟩ := Kd.R_slice a3.out; subst i7) | ((with_reducible refine zq 77 ?_); refine zg (some 25) Tryz.func77 #[.slice e5 a8.length e6] ?_; (with_reducible refine (spec_l4List.calls a9 _ _ a8 b6 false _ ?s1 ?s2 d8.out).mono ?_); (case s1 => repeat (first | exact (Kd.R_reads' a3.out).2.2 | (with_reducible refine Kd.C_alloc ?_ _) | (with_reducible refine Kd.C_drewN ?_ _) | (with_reducible refine Kd.C_drew ?_))); (case s2 => exact (Kd.R_reads' a3.out).2.1); rintro e l2 ⟨e0, rfl, a4, hb⟩; refine ⟨_, rfl, ?_⟩; have a7 := zA (Kd.N_lower (Kd.N_mono (ok' := fun k_ => (w.heap.size ≤ k_) ∧ some k_ ≠ (u4 : Value).ownBlock ∧ some k_ ≠ (.slice (some b4) a5.length b1 : Value).ownBlock ∧ some k_ ≠ (.slice e5 a8.length e6 : Value).ownBlock) a4 (fun k_ hk_ => ⟨(Nat.le_trans (below_size (zB)) hk_), (Kd.fresh' (Kd.N_lt (zN a2.out)) k_ hk_), (Kd.fresh' (Kd.R_lt (zR a1.out)) k_ hk_), (Kd.fresh' (Kd.R_lt (zR a3.out)) k_ hk_)⟩)) (below_size (zB))); replace a2 := zA (Kd.N_elder' (zN a2.out) (Kd.N_base a4) hb); replace a1 := zr a1 hb; replace a3 := zr a3 hb; replace HB := zA (below_step (zB) hb); (try clear hb a4)) | ((with_reducible refine gate_dst (N := 35) rfl ?_); refine zNl (Kd.slice 75 k75) 108 35 (xs := ([] : List (List (S75)))) (inner := []) (ok := (fun k_ => (w.heap.size ≤ k_) ∧ some k_ ≠ (u4 : Value).ownBlock ∧ some k_ ≠ (.slice (some b4) a5.length b1 : Value).ownBlock ∧ some k_ ≠ (.slice e5 a8.length e6 : Value).ownBlock ∧ some k_ ≠ (e0 : Value).ownBlock)) ((Reps.none _ _)) (fun k_ hk => ⟨(Nat.le_trans (below_size (zB)) hk), Kd.fresh' (Kd.N_lt (zN a2.out)) k_ hk, Kd.fresh' (Kd.R_lt (zR a1.out)) k_ hk, Kd.fresh' (Kd.R_lt (zR a3.out)) k_ hk, Kd.fresh' (Kd.N_lt (zN a7.out)) k_ hk⟩) ?_; intro l3 l4 b8 hb hg_ hnew_; clear hg_ hnew_; (first | rw [← g4.out] at b8 | (simp only [Int.reduceToNat] at b8; rw [← g4.out] at b8)); replace a2 := zA (Kd.N_elder' (zN a2.out) (Kd.N_base b8) hb); replace a1 := zr a1 hb; replace a3 := zr a3 hb; replace a7 := zA (Kd.N_elder' (zN a7.out) (Kd.N_base b8) hb); have i8 := zA (Kd.N_lower b8 (below_size (zB))); replace HB := zA (below_step (zB) hb); clear hb b8))
      go_ret2
      exact ⟨_, zE, zNt (Kd.N_mono i8.out (fun _ hk => hk.1)), zB⟩
/-! ### spec_l7Need: function 109 -/
def spec_l7Need.f (k : Nat) (a1 a0 : ByteArray) : Option (Bool) := (spec_ParseRange.f k a0).bind fun a2 => ((spec_NameOk.f k a1).bind fun a3 => (if a3 = true then (if (a0.size : Int) ≤ 20 then (some a2.2) else (some false)) else (some false)))
theorem spec_l7Need.calls (k : Nat) (a2 a1 : ByteArray) (r : Bool) (w : World) (h : spec_l7Need.f k a2 a1 = some r) :
  Calls Tryz.prog 109 #[.agg #[.string a2, .string a1]] w fun e w' => e = .returned (.bool r) ∧ Below w.heap.size w w' := by
 have b5 := Tryz.underlying30
 have HB := zA (Below.refl w.heap.size w)
 unfold spec_l7Need.f at h
 have H := h
 clear h
 replace H := Option.bind_eq_some_iff.mp H
 obtain ⟨⟨a5, a6⟩, a7, H⟩ := H
 try dsimp only at H
 have A2 := zA a7
 clear a7
 replace H := Option.bind_eq_some_iff.mp H
 obtain ⟨b6, a8, H⟩ := H
 try dsimp only at H
 have A3 := zA a8
 clear a8
 replace H := zB0 H
 rcases H with ⟨rfl, H⟩ | ⟨rfl, H⟩
 ·replace H := zI1 H
  rcases H with ⟨c5, H⟩ | ⟨c5, H⟩
  ·have b3 := decide_eq_true c5
   have b4 : decide (a1.size ≤ 20) = true := decide_eq_true (by omega)
   clear c5
   obtain rfl := zm H
   go_enter Tryz.func109, Tryz.ntmps109
   go_wp2_with (first | ((with_reducible refine gate_dst (N := 1) rfl ?_); (try (refine gate_guard (by rfl) ?_; dsimp only)); refine box_event ?hg (N := 1) ?hd (cs := #[.string a2, .string a1]) (t := 30) ?hr ?_; (case hd => rfl); (case hg => rfl); (case hr => first | (go_simp; done) | (go_simp; rfl)); intro a4 hg w6 hbox hb; have a0 := zA (hbox); have a9 := zi HB hg; have b0 := zi HB hg; replace HB := zA (below_step (zB) hb); clear hb hbox hg; obtain ⟨b7, b8, b9, c0⟩ := ze2 a0.out) | ((with_reducible refine zq 31 ?_); refine zg (some 8) Tryz.func31 #[.string a1] ?_; (with_reducible refine (spec_ParseRange.calls k a1 a5 a6 _ A2.out).mono ?_); rintro e w8 ⟨b1, rfl, a3, hb⟩; refine ⟨_, rfl, ?_⟩; have b2 := zA (Kd.N_lower (Kd.N_mono (ok' := fun k_ => k_ ≠ a4) a3 (fun k_ hk_ => (Kd.freshB (zK a0.out) k_ hk_))) (below_size (zW HB.out))); replace a0 := zb a0 hb; replace HB := zh HB hb; (try clear hb a3); obtain ⟨c1, c2, c3, c4⟩ := ze2 a0.out) | ((with_reducible refine zq 53 ?_); refine zg (some 13) Tryz.func53 #[.string a2] ?_; (with_reducible refine (spec_NameOk.calls k a2 true _ A3.out).mono ?_); rintro e w' ⟨rfl, ⟨nd, rfl⟩⟩; refine ⟨_, rfl, ?_⟩))
   go_ret
   exact ⟨zE, zW HB.out⟩
  ·have b3 := decide_eq_false c5
   have b4 : decide (a1.size ≤ 20) = false := decide_eq_false (by omega)
   clear c5
   obtain rfl := zm H
   go_enter Tryz.func109, Tryz.ntmps109
   go_wp2_with (first | ((with_reducible refine gate_dst (N := 1) rfl ?_); (try (refine gate_guard (by rfl) ?_; dsimp only)); refine box_event ?hg (N := 1) ?hd (cs := #[.string a2, .string a1]) (t := 30) ?hr ?_; (case hd => rfl); (case hg => rfl); (case hr => first | (go_simp; done) | (go_simp; rfl)); intro a4 hg c6 hbox hb; have a0 := zA (hbox); have a9 := zi HB hg; have b0 := zi HB hg; replace HB := zA (below_step (zB) hb); clear hb hbox hg; obtain ⟨c7, c8, c9, d0⟩ := ze2 a0.out) | ((with_reducible refine zq 31 ?_); refine zg (some 8) Tryz.func31 #[.string a1] ?_; (with_reducible refine (spec_ParseRange.calls k a1 a5 a6 _ A2.out).mono ?_); rintro e d1 ⟨b1, rfl, a3, hb⟩; refine ⟨_, rfl, ?_⟩; have b2 := zA (Kd.N_lower (Kd.N_mono (ok' := fun k_ => k_ ≠ a4) a3 (fun k_ hk_ => (Kd.freshB (zK a0.out) k_ hk_))) (below_size (zW HB.out))); replace a0 := zb a0 hb; replace HB := zh HB hb; (try clear hb a3); obtain ⟨d2, d3, d4, d5⟩ := ze2 a0.out) | ((with_reducible refine zq 53 ?_); refine zg (some 13) Tryz.func53 #[.string a2] ?_; (with_reducible refine (spec_NameOk.calls k a2 true _ A3.out).mono ?_); rintro e w' ⟨rfl, ⟨nd, rfl⟩⟩; refine ⟨_, rfl, ?_⟩))
   go_ret
   exact ⟨zE, zW HB.out⟩
 ·obtain rfl := zm H
  go_enter Tryz.func109, Tryz.ntmps109
  go_wp2_with (first | ((with_reducible refine gate_dst (N := 1) rfl ?_); (try (refine gate_guard (by rfl) ?_; dsimp only)); refine box_event ?hg (N := 1) ?hd (cs := #[.string a2, .string a1]) (t := 30) ?hr ?_; (case hd => rfl); (case hg => rfl); (case hr => first | (go_simp; done) | (go_simp; rfl)); intro a4 hg d6 hbox hb; have a0 := zA (hbox); have a9 := zi HB hg; have b0 := zi HB hg; replace HB := zA (below_step (zB) hb); clear hb hbox hg; obtain ⟨d7, d8, d9, e0⟩ := ze2 a0.out) | ((with_reducible refine zq 31 ?_); refine zg (some 8) Tryz.func31 #[.string a1] ?_; (with_reducible refine (spec_ParseRange.calls k a1 a5 a6 _ A2.out).mono ?_); rintro e e1 ⟨b1, rfl, a3, hb⟩; refine ⟨_, rfl, ?_⟩; have b2 := zA (Kd.N_lower (Kd.N_mono (ok' := fun k_ => k_ ≠ a4) a3 (fun k_ hk_ => (Kd.freshB (zK a0.out) k_ hk_))) (below_size (zW HB.out))); replace a0 := zb a0 hb; replace HB := zh HB hb; (try clear hb a3); obtain ⟨e2, e3, e4, e5⟩ := ze2 a0.out) | ((with_reducible refine zq 53 ?_); refine zg (some 13) Tryz.func53 #[.string a2] ?_; (with_reducible refine (spec_NameOk.calls k a2 false _ A3.out).mono ?_); rintro e w' ⟨rfl, ⟨nd, rfl⟩⟩; refine ⟨_, rfl, ?_⟩))
  go_ret
  exact ⟨zE, zW HB.out⟩
/-! ### spec_l7Needs: function 56 -/
def spec_l7Needs.l0 : Nat → List (S30) → Int → Option (Bool)
 | 0, _, _ => none
 | k + 1, x0, x3 => if x3 < (x0.length : Int) then (if 0 ≤ x3 then ((spec_l7Need.f k ((rd_T30 x0 x3).f0) ((rd_T30 x0 x3).f1)).bind fun a0 => (if a0 = true then (if x3 > 0 then (if 0 ≤ (wrap64 (x3 - 1)) then (if (wrap64 (x3 - 1)) < (x0.length : Int) then (if ((Op.bytesLess (((rd_T30 x0 (wrap64 (x3 - 1))).f0).toList) (((rd_T30 x0 x3).f0).toList)) = true) then (spec_l7Needs.l0 k x0 (wrap64 (x3 + 1))) else (some false)) else (none)) else (none)) else (spec_l7Needs.l0 k x0 (wrap64 (x3 + 1)))) else (some false))) else (none)) else (some (decide ((x0.length : Int) ≤ 4)))
def spec_l7Needs.f (k : Nat) (l0 : List (S30)) : Option (Bool) := spec_l7Needs.l0 k l0 0
def spec_l7Needs.T4 : Bool × List (List Nat × List Nat) := (true, [([], []), ([], []), ([0, 1], [0, 1]), ([2], [2]), ([3], [3]), ([4], [4]), ([5, 4], [5]), ([6], [6]), ([7, 6], [6, 7]), ([8, 6, 6], [6, 8]), ([9], [9]), ([9], [9]), ([11, 9], [9, 11]), ([10, 12, 9], [9, 10, 12]), ([13, 9], [9, 13]), ([14, 9], [9, 14]), ([9], [9]), ([9], [9]), ([16, 17, 9], [9, 16, 17]), ([18, 9], [9, 18]), ([19, 9], [9, 19]), ([15, 20, 9], [9, 15, 20]), ([9, 21, 6], [6, 9, 21]), ([6, 22], [6, 22])])
def spec_l7Needs.B4 : List Nat := [0, 0, 3, 7, 15, 31, 63, 127, 255, 511, 1023, 1023, 3071, 8191, 16383, 32767, 1023, 1023, 197631, 459775, 984063, 2097151, 4194303, 8388607]
theorem spec_l7Needs.tab4 : rtab .any (opsOf Tryz.f56 4) = spec_l7Needs.T4 := by kernel_rfl
theorem spec_l7Needs.bits4 : waitsOk spec_l7Needs.T4.2 spec_l7Needs.B4 = true := by kernel_rfl
theorem spec_l7Needs.calls (k : Nat) (A0 : Option Addr) (c0 : Nat) (l0 : List (S30)) (r : Bool) (w : World) (c8 : Kd.C k30 w A0 l0.length l0) (c9 : l0.length ≤ c0) (h : spec_l7Needs.f k l0 = some r) :
  Calls Tryz.prog 56 #[.slice A0 l0.length c0] w fun e w' => e = .returned (.bool r) ∧ Below w.heap.size w w' := by
 have d8 := Tryz.underlying30
 have b1 := zA c8
 have d9 := zA c9
 clear c8 c9
 have HB := zA (Below.refl w.heap.size w)
 unfold spec_l7Needs.f at h
 have H := h
 clear h
 have H' := zA H
 clear H
 go_enter Tryz.func56, Tryz.ntmps56
 go_wp2
 go_loopg [3] k (fun kq v3 w' => ∃ (a0 : Int), v3 = .int .i64 a0 ∧ Aside0 (spec_l7Needs.l0 kq l0 a0 = some r) ∧ Aside0 (kq ≤ k) ∧ Aside0 (Below w.heap.size w w'))
 case atStart => exact ⟨(0), zS, H', ⟨Nat.le_refl _⟩, ⟨zB⟩⟩
 case round =>
  clear H'
  obtain ⟨a0, rfl, HA, b9, HB⟩ := hrel
  cases gk with
  | zero => exact absurd HA.out (by simp [spec_l7Needs.l0])
  | succ k1 =>
   have H := HA.out
   clear HA
   simp only [spec_l7Needs.l0] at H
   replace H := zI0 H
   rcases H with ⟨d1, H⟩ | ⟨d1, H⟩
   ·replace H := zD0 H
    obtain ⟨e0, H⟩ := H
    replace H := Option.bind_eq_some_iff.mp H
    obtain ⟨e1, d0, H⟩ := H
    try dsimp only at H
    have A4 := zA d0
    clear d0
    replace H := zB0 H
    rcases H with ⟨rfl, H⟩ | ⟨rfl, H⟩
    ·replace H := zI1 H
     rcases H with ⟨c6, H⟩ | ⟨c6, H⟩
     ·have d2 : decide (0 < a0) = true := decide_eq_true c6
      clear c6
      obtain ⟨a2, b7⟩ : ∃ j_ : Int, (wrap64 (a0 - 1)) = j_ := ⟨_, rfl⟩
      replace H : (if 0 ≤ (a2) then (if (a2) < (l0.length : Int) then (if ((Op.bytesLess (((rd_T30 l0 (a2)).f0).toList) (((rd_T30 l0 a0).f0).toList)) = true) then (spec_l7Needs.l0 k1 l0 (wrap64 (a0 + 1))) else (some false)) else (none)) else (none)) = some r := by first | (rw [b7] at H; exact H) | (simp only [b7] at H ⊢; exact H)
      (try rw [b7] at A4)
      have hji7w : (IntKind.i64.wrap (a0 - 1)) = a2 := (i64_w _).trans b7
      replace H := zD0 H
      obtain ⟨e2, H⟩ := H
      replace H := zD0 H
      obtain ⟨e3, H⟩ := H
      replace H := zI1 H
      rcases H with ⟨b8, H⟩ | ⟨b8, H⟩
      ·have d3 : (Op.bytesLess (((rd_T30 l0 (a2)).f0).toList) (((rd_T30 l0 a0).f0).toList)) = true := b8
       clear b8
       have H' := zA H
       clear H
       try go_wp2
       replace HB := zA (below_drew1 HB.out)
       have a5 : 0 ≤ (a0 : Int) := zD
       have a6 : a0 < (l0.length : Int) := zD
       obtain ⟨a1, b2, a3, a4⟩ := at_T30 b1.out a0 a5 a6
       have c1 := a4
       have c2 := a3
       cases b2
       replace a3 := zx HB a3
       replace a4 := zx HB a4
       replace a5 := eq_true a5
       replace a6 := eq_true a6
       have b3 : 0 ≤ ((a2) : Int) := zD
       have b4 : (a2) < (l0.length : Int) := zD
       obtain ⟨c3, c4, a7, a8⟩ := at_T30 b1.out (a2) b3 b4
       have d4 := a8
       have d5 := a7
       obtain rfl : a1 = c3 := (by injection c4)
       replace a7 := zx HB a7
       replace a8 := zx HB a8
       replace b3 := eq_true b3
       replace b4 := eq_true b4
       have b5 : 0 ≤ (a0 : Int) := zD
       have b6 : a0 < (l0.length : Int) := zD
       obtain ⟨c5, c7, a9, b0⟩ := at_T30 b1.out a0 b5 b6
       have d6 := b0
       have d7 := a9
       obtain rfl : a1 = c5 := (by injection c7)
       replace a9 := zx HB a9
       replace b0 := zx HB b0
       replace b5 := eq_true b5
       replace b6 := eq_true b6
       refine start_ (n := 24) (S := fun w' => w'.cell? (a1.add ((a0).toNat * 2)) = some (.string ((rd_T30 l0 a0).f0)) ∧ w'.cell? ⟨(a1.add ((a0).toNat * 2)).block, (a1.add ((a0).toNat * 2)).off + 1, none⟩ = some (.string ((rd_T30 l0 a0).f1)) ∧ w'.cell? (a1.add (((a2)).toNat * 2)) = some (.string ((rd_T30 l0 (a2)).f0)) ∧ w'.cell? ⟨(a1.add (((a2)).toNat * 2)).block, (a1.add (((a2)).toNat * 2)).off + 1, none⟩ = some (.string ((rd_T30 l0 (a2)).f1)) ∧ w'.cell? (a1.add ((a0).toNat * 2)) = some (.string ((rd_T30 l0 a0).f0)) ∧ w'.cell? ⟨(a1.add ((a0).toNat * 2)).block, (a1.add ((a0).toNat * 2)).off + 1, none⟩ = some (.string ((rd_T30 l0 a0).f1))) (ds := []) (Array.replicate 24 false) (by kernel_rfl) rfl rfl zO fun hHeld => ?_; refine with_tabW spec_l7Needs.tab4 spec_l7Needs.bits4 (fun HT_ HW_ => ?_)
       generalize wr.drew = e4 at HB a3 a4 a7 a8 a9 b0 hHeld ⊢
       refine zp 0 10 ?_
       refine zp 1 11 ?_
       refine zp 2 12 ?_
       refine zt 3 13 ?_
       refine zo 4 (some 14) fun K hK => ?_
       refine goes_ Tryz.func109 (by kernel_rfl) rfl #[.agg #[.string ((rd_T30 l0 a0).f0), .string ((rd_T30 l0 a0).f1)]] (by rfl) rfl rfl zM ?_
       with_reducible refine (spec_l7Need.calls k1 ((rd_T30 l0 a0).f0) ((rd_T30 l0 a0).f1) true _ A4.out).mono ?_
       rintro e e5 ⟨rfl, hb⟩
       refine ⟨_, rfl, ?_⟩
       replace HB := zA (below_step (zB) hb)
       (try clear hb)
       refine hK.out _ _ zO fun hHeld => ?_
       clear hK K
       refine zn ?_
       refine zp 5 15 ?_
       refine zp 6 16 ?_
       refine zp 7 17 ?_
       refine zp 8 18 ?_
       refine zp 9 19 ?_
       refine zp 10 20 ?_
       refine zp 11 21 ?_
       refine zp 12 22 ?_
       refine zp 13 23 ?_
       refine zp 14 24 ?_
       refine zp 16 26 ?_
       refine zp 17 27 ?_
       refine zp 18 28 ?_
       refine zp 19 29 ?_
       refine zt 15 25 ?_
       refine zt 20 30 ?_
       refine zp 21 31 ?_
       refine zp 22 32 ?_
       refine zp 23 33 ?_
       refine done_ (done_of HT_.out (by kernel_rfl)) ?_
       try go_wp2
       go_roundg k1
       case measure => have := b9.out; omega
       case rel => exact ⟨(wrap64 (a0 + 1)), zS, H', ⟨by have := b9.out; omega⟩, ⟨zB⟩⟩
      ·have d3 : (Op.bytesLess (((rd_T30 l0 (a2)).f0).toList) (((rd_T30 l0 a0).f0).toList)) = false := by simpa using b8
       clear b8
       obtain rfl := zm H
       try go_wp2
       replace HB := zA (below_drew1 HB.out)
       have a5 : 0 ≤ (a0 : Int) := zD
       have a6 : a0 < (l0.length : Int) := zD
       obtain ⟨a1, b2, a3, a4⟩ := at_T30 b1.out a0 a5 a6
       have c1 := a4
       have c2 := a3
       cases b2
       replace a3 := zx HB a3
       replace a4 := zx HB a4
       replace a5 := eq_true a5
       replace a6 := eq_true a6
       have b3 : 0 ≤ ((a2) : Int) := zD
       have b4 : (a2) < (l0.length : Int) := zD
       obtain ⟨c3, c4, a7, a8⟩ := at_T30 b1.out (a2) b3 b4
       have d4 := a8
       have d5 := a7
       obtain rfl : a1 = c3 := (by injection c4)
       replace a7 := zx HB a7
       replace a8 := zx HB a8
       replace b3 := eq_true b3
       replace b4 := eq_true b4
       have b5 : 0 ≤ (a0 : Int) := zD
       have b6 : a0 < (l0.length : Int) := zD
       obtain ⟨c5, c7, a9, b0⟩ := at_T30 b1.out a0 b5 b6
       have d6 := b0
       have d7 := a9
       obtain rfl : a1 = c5 := (by injection c7)
       replace a9 := zx HB a9
       replace b0 := zx HB b0
       replace b5 := eq_true b5
       replace b6 := eq_true b6
       refine start_ (n := 24) (S := fun w' => w'.cell? (a1.add ((a0).toNat * 2)) = some (.string ((rd_T30 l0 a0).f0)) ∧ w'.cell? ⟨(a1.add ((a0).toNat * 2)).block, (a1.add ((a0).toNat * 2)).off + 1, none⟩ = some (.string ((rd_T30 l0 a0).f1)) ∧ w'.cell? (a1.add (((a2)).toNat * 2)) = some (.string ((rd_T30 l0 (a2)).f0)) ∧ w'.cell? ⟨(a1.add (((a2)).toNat * 2)).block, (a1.add (((a2)).toNat * 2)).off + 1, none⟩ = some (.string ((rd_T30 l0 (a2)).f1)) ∧ w'.cell? (a1.add ((a0).toNat * 2)) = some (.string ((rd_T30 l0 a0).f0)) ∧ w'.cell? ⟨(a1.add ((a0).toNat * 2)).block, (a1.add ((a0).toNat * 2)).off + 1, none⟩ = some (.string ((rd_T30 l0 a0).f1))) (ds := []) (Array.replicate 24 false) (by kernel_rfl) rfl rfl zO fun hHeld => ?_; refine with_tabW spec_l7Needs.tab4 spec_l7Needs.bits4 (fun HT_ HW_ => ?_)
       generalize wr.drew = e6 at HB a3 a4 a7 a8 a9 b0 hHeld ⊢
       refine zp 0 10 ?_
       refine zp 1 11 ?_
       refine zp 2 12 ?_
       refine zt 3 13 ?_
       refine zo 4 (some 14) fun K hK => ?_
       refine goes_ Tryz.func109 (by kernel_rfl) rfl #[.agg #[.string ((rd_T30 l0 a0).f0), .string ((rd_T30 l0 a0).f1)]] (by rfl) rfl rfl zM ?_
       with_reducible refine (spec_l7Need.calls k1 ((rd_T30 l0 a0).f0) ((rd_T30 l0 a0).f1) true _ A4.out).mono ?_
       rintro e e7 ⟨rfl, hb⟩
       refine ⟨_, rfl, ?_⟩
       replace HB := zA (below_step (zB) hb)
       (try clear hb)
       refine hK.out _ _ zO fun hHeld => ?_
       clear hK K
       refine zn ?_
       refine zp 5 15 ?_
       refine zp 6 16 ?_
       refine zp 7 17 ?_
       refine zp 8 18 ?_
       refine zp 9 19 ?_
       refine zp 10 20 ?_
       refine zp 11 21 ?_
       refine zp 12 22 ?_
       refine zp 13 23 ?_
       refine zp 14 24 ?_
       refine zp 16 26 ?_
       refine zp 17 27 ?_
       refine zp 18 28 ?_
       refine zp 19 29 ?_
       refine zt 15 25 ?_
       refine zt 20 30 ?_
       refine zp 21 31 ?_
       refine zp 22 32 ?_
       refine zp 23 33 ?_
       refine done_ (done_of HT_.out (by kernel_rfl)) ?_
       try go_wp2
       go_ret
       exact ⟨by first | rfl | (simp [errW_none, errW_some] <;> rfl) | (simp only [← b7]; first | rfl | (simp [errW_none, errW_some] <;> rfl)) | (simp [*, errW_none, errW_some] <;> rfl), zB⟩
     ·have d2 : decide (0 < a0) = false := decide_eq_false c6
      clear c6
      have H' := zA H
      clear H
      try go_wp2
      replace HB := zA (below_drew1 HB.out)
      have a5 : 0 ≤ (a0 : Int) := zD
      have a6 : a0 < (l0.length : Int) := zD
      obtain ⟨a1, b2, a3, a4⟩ := at_T30 b1.out a0 a5 a6
      have c1 := a4
      have c2 := a3
      cases b2
      replace a3 := zx HB a3
      replace a4 := zx HB a4
      replace a5 := eq_true a5
      replace a6 := eq_true a6
      refine start_ (n := 24) (S := fun w' => w'.cell? (a1.add ((a0).toNat * 2)) = some (.string ((rd_T30 l0 a0).f0)) ∧ w'.cell? ⟨(a1.add ((a0).toNat * 2)).block, (a1.add ((a0).toNat * 2)).off + 1, none⟩ = some (.string ((rd_T30 l0 a0).f1))) (ds := []) (Array.replicate 24 false) (by kernel_rfl) rfl rfl zO fun hHeld => ?_; refine with_tabW spec_l7Needs.tab4 spec_l7Needs.bits4 (fun HT_ HW_ => ?_)
      generalize wr.drew = e8 at HB a3 a4 hHeld ⊢
      refine zp 0 10 ?_
      refine zp 1 11 ?_
      refine zp 2 12 ?_
      refine zt 3 13 ?_
      refine zo 4 (some 14) fun K hK => ?_
      refine goes_ Tryz.func109 (by kernel_rfl) rfl #[.agg #[.string ((rd_T30 l0 a0).f0), .string ((rd_T30 l0 a0).f1)]] (by rfl) rfl rfl zM ?_
      with_reducible refine (spec_l7Need.calls k1 ((rd_T30 l0 a0).f0) ((rd_T30 l0 a0).f1) true _ A4.out).mono ?_
      rintro e e9 ⟨rfl, hb⟩
      refine ⟨_, rfl, ?_⟩
      replace HB := zA (below_step (zB) hb)
      (try clear hb)
      refine hK.out _ _ zO fun hHeld => ?_
      clear hK K
      refine zn ?_
      refine zp 5 15 ?_
      refine zp 6 16 ?_
      refine zp 7 17 ?_
      refine zp 8 18 ?_
      refine zp 9 19 ?_
      refine zu 10 20 ?_
      refine zu 11 21 ?_
      refine zu 12 22 ?_
      refine zu 13 23 ?_
      refine zu 14 24 ?_
      refine zu 15 25 ?_
      refine zu 16 26 ?_
      refine zu 17 27 ?_
      refine zu 18 28 ?_
      refine zu 19 29 ?_
      refine zu 20 30 ?_
      refine zu 21 31 ?_
      refine zp 22 32 ?_
      refine zp 23 33 ?_
      refine done_ (done_of HT_.out (by kernel_rfl)) ?_
      try go_wp2
      go_roundg k1
      case measure => have := b9.out; omega
      case rel => exact ⟨(wrap64 (a0 + 1)), zS, H', ⟨by have := b9.out; omega⟩, ⟨zB⟩⟩
    ·obtain rfl := zm H
     try go_wp2
     replace HB := zA (below_drew1 HB.out)
     have a5 : 0 ≤ (a0 : Int) := zD
     have a6 : a0 < (l0.length : Int) := zD
     obtain ⟨a1, b2, a3, a4⟩ := at_T30 b1.out a0 a5 a6
     have c1 := a4
     have c2 := a3
     cases b2
     replace a3 := zx HB a3
     replace a4 := zx HB a4
     replace a5 := eq_true a5
     replace a6 := eq_true a6
     refine start_ (n := 24) (S := fun w' => w'.cell? (a1.add ((a0).toNat * 2)) = some (.string ((rd_T30 l0 a0).f0)) ∧ w'.cell? ⟨(a1.add ((a0).toNat * 2)).block, (a1.add ((a0).toNat * 2)).off + 1, none⟩ = some (.string ((rd_T30 l0 a0).f1))) (ds := []) (Array.replicate 24 false) (by kernel_rfl) rfl rfl zO fun hHeld => ?_; refine with_tabW spec_l7Needs.tab4 spec_l7Needs.bits4 (fun HT_ HW_ => ?_)
     generalize wr.drew = f2 at HB a3 a4 hHeld ⊢
     refine zp 0 10 ?_
     refine zp 1 11 ?_
     refine zp 2 12 ?_
     refine zt 3 13 ?_
     refine zo 4 (some 14) fun K hK => ?_
     refine goes_ Tryz.func109 (by kernel_rfl) rfl #[.agg #[.string ((rd_T30 l0 a0).f0), .string ((rd_T30 l0 a0).f1)]] (by rfl) rfl rfl zM ?_
     with_reducible refine (spec_l7Need.calls k1 ((rd_T30 l0 a0).f0) ((rd_T30 l0 a0).f1) false _ A4.out).mono ?_
     rintro e f3 ⟨rfl, hb⟩
     refine ⟨_, rfl, ?_⟩
     replace HB := zA (below_step (zB) hb)
     (try clear hb)
     refine hK.out _ _ zO fun hHeld => ?_
     clear hK K
     refine zn ?_
     refine zp 5 15 ?_
     refine zp 6 16 ?_
     refine zu 7 17 ?_
     refine zu 8 18 ?_
     refine zu 9 19 ?_
     refine zu 10 20 ?_
     refine zu 11 21 ?_
     refine zu 12 22 ?_
     refine zu 13 23 ?_
     refine zu 14 24 ?_
     refine zu 15 25 ?_
     refine zu 16 26 ?_
     refine zu 17 27 ?_
     refine zu 18 28 ?_
     refine zu 19 29 ?_
     refine zu 20 30 ?_
     refine zu 21 31 ?_
     refine zu 22 32 ?_
     refine zp 23 33 ?_
     refine done_ (done_of HT_.out (by kernel_rfl)) ?_
     try go_wp2
     go_ret
     exact ⟨zE, zB⟩
   ·obtain rfl := zm H
    go_wp2
    go_ret
    exact ⟨zE, zB⟩
/-! ### spec_l3LessPart: function 173 -/
def spec_l3LessPart.j0 : Nat → ByteArray → ByteArray → Bool → Bool → Bool → Option (Bool)
 | 0, _, _, _, _, _ => none
 | k + 1, x0, x1, x5, x6, a0 => if a0 = true then (if (x0.size : Int) = (x1.size : Int) then (some (Op.bytesLess x0.toList x1.toList)) else (some (decide ((x0.size : Int) < (x1.size : Int))))) else (if (x5 != x6) = true then (some x5) else (some (Op.bytesLess x0.toList x1.toList)))
def spec_l3LessPart.f (k : Nat) (a0 a1 : ByteArray) : Option (Bool) := (spec_l3Digits.f k a0).bind fun a2 => ((spec_l3Digits.f k a1).bind fun a3 => (if a2 = true then (spec_l3LessPart.j0 k a0 a1 a2 a3 a3) else (spec_l3LessPart.j0 k a0 a1 a2 a3 false)))
theorem spec_l3LessPart.calls (k : Nat) (a0 a1 : ByteArray) (r : Bool) (w : World) (h : spec_l3LessPart.f k a0 a1 = some r) :
  Calls Tryz.prog 173 #[.string a0, .string a1] w fun e w' => e = .returned (.bool r) ∧ Drawn0 w w' := by
 unfold spec_l3LessPart.f at h
 have H := h
 clear h
 replace H := Option.bind_eq_some_iff.mp H
 obtain ⟨a3, a6, H⟩ := H
 try dsimp only at H
 have A3 := zA a6
 clear a6
 replace H := Option.bind_eq_some_iff.mp H
 obtain ⟨a2, a7, H⟩ := H
 try dsimp only at H
 have A4 := zA a7
 clear a7
 have a4 := zA H
 clear H
 go_enter Tryz.func173, Tryz.ntmps173
 go_upto_region 3 with (first | ((with_reducible refine zq 150 ?_); refine zg (some 8) Tryz.func150 #[.string a0] ?_; (with_reducible refine (spec_l3Digits.calls k a0 a3 _ A3.out).mono ?_); rintro e w' ⟨rfl, ⟨nd, rfl⟩⟩; refine ⟨_, rfl, ?_⟩) | ((with_reducible refine zq 150 ?_); refine zg (some 10) Tryz.func150 #[.string a1] ?_; (with_reducible refine (spec_l3Digits.calls k a1 a2 _ A4.out).mono ?_); rintro e w' ⟨rfl, ⟨nd, rfl⟩⟩; refine ⟨_, rfl, ?_⟩))
 (try simp only [Act.put, zT])
 go_cut [14] (fun a8 wc => ∃ (kq : Nat) (a5 : Bool), a8 = .bool a5 ∧ Aside0 (spec_l3LessPart.j0 kq a0 a1 a3 a2 a5 = some r) ∧ Aside0 (kq ≤ k) ∧ Drawn0 w wc)
 case first =>
  have H := a4.out
  clear a4
  replace H := zB0 H
  rcases H with ⟨rfl, H⟩ | ⟨rfl, H⟩
  ·have H' := zA H
   clear H
   go_wp2
   go_meet
   case rel => exact ⟨_, (a2), zS, (by first | exact H' | (subst_vars; exact H')), ⟨by first | omega | exact Nat.le_refl _⟩, by repeat (first | exact Drawn0.refl _ | apply Drawn0.step)⟩
  ·have H' := zA H
   clear H
   go_wp2
   go_meet
   case rel => exact ⟨_, (false), zS, (by first | exact H' | (subst_vars; exact H')), ⟨by first | omega | exact Nat.le_refl _⟩, by repeat (first | exact Drawn0.refl _ | apply Drawn0.step)⟩
 case rest =>
  clear a4
  try clear c1
  try clear p2
  try clear c6
  obtain ⟨kq, a5, rfl, HA, b5, ⟨b6, rfl⟩⟩ := hcut
  cases kq with
  | zero => exact absurd HA.out (by simp [spec_l3LessPart.j0])
  | succ b7 =>
   have H := HA.out
   clear HA
   simp only [spec_l3LessPart.j0] at H
   replace H := zB0 H
   rcases H with ⟨rfl, H⟩ | ⟨rfl, H⟩
   ·replace H := zI1 H
    rcases H with ⟨c8, H⟩ | ⟨c8, H⟩
    ·have a9 := beq_iff_eq.mpr c8
     have b0 := bne_eq_false_iff_eq.mpr c8
     have b1 : (a0.size == a1.size) = true := by first | simpa using c8 | (simp at c8 ⊢; omega)
     clear c8
     obtain rfl := zm H
     go_wp2
     go_ret
     exact ⟨by first | rfl | (simp; done) | (simp [*]; done) | (simp; rw [Bool.eq_iff_iff]; simp; done), by repeat (first | exact Drawn0.refl _ | apply Drawn0.step)⟩
    ·have a9 := beq_eq_false_iff_ne.mpr c8
     have b0 := bne_iff_ne.mpr c8
     have b1 : (a0.size == a1.size) = false := by first | simpa using c8 | (simp at c8 ⊢; omega)
     obtain rfl := zm H
     go_wp2
     go_ret
     exact ⟨by first | rfl | (simp; done) | (simp [*]; done) | (simp; rw [Bool.eq_iff_iff]; simp; done), by repeat (first | exact Drawn0.refl _ | apply Drawn0.step)⟩
   ·replace H := zI1 H
    rcases H with ⟨c9, H⟩ | ⟨c9, H⟩
    ·have b2 : (a3 != a2) = true := c9
     (try (have b3 : decide (a3 = a2) = false := by simpa using c9))
     (try (have b4 : (a3 == a2) = false := by simpa using c9))
     (try (have b8 : ¬ (a3 = a2) := by simpa using c9))
     clear c9
     obtain rfl := zm H
     go_wp2
     go_ret
     exact ⟨by first | rfl | (simp; done) | (simp [*]; done) | (simp; rw [Bool.eq_iff_iff]; simp; done), by repeat (first | exact Drawn0.refl _ | apply Drawn0.step)⟩
    ·have b2 : (a3 != a2) = false := by simpa using c9
     (try (have b3 : decide (a3 = a2) = true := by simpa using c9))
     (try (have b4 : (a3 == a2) = true := by simpa using c9))
     clear c9
     obtain rfl := zm H
     go_wp2
     go_ret
     exact ⟨by first | rfl | (simp; done) | (simp [*]; done) | (simp; rw [Bool.eq_iff_iff]; simp; done), by repeat (first | exact Drawn0.refl _ | apply Drawn0.step)⟩
/-! ### spec_l3LessPre: function 142 -/
mutual
def spec_l3LessPre.j0 : Nat → List ByteArray → List ByteArray → Bool → Option (Bool)
 | 0, _, _, _ => none
 | k + 1, x0, x1, a0 => if a0 = true then (if (x0.length : Int) > 0 then (some ((x1.length : Int) == 0)) else (some false)) else (spec_l3LessPre.j1 k x0 x1)
def spec_l3LessPre.j1 : Nat → List ByteArray → List ByteArray → Option (Bool)
 | 0, _, _ => none
 | k + 1, x0, x1 => spec_l3LessPre.l0 k x0 x1 0
def spec_l3LessPre.l0 : Nat → List ByteArray → List ByteArray → Int → Option (Bool)
 | 0, _, _, _ => none
 | k + 1, x0, x1, x5 => if x5 < (x0.length : Int) then (spec_l3LessPre.j3 k x0 x1 x5 (decide (x5 < (x1.length : Int)))) else (spec_l3LessPre.j3 k x0 x1 x5 false)
def spec_l3LessPre.j3 : Nat → List ByteArray → List ByteArray → Int → Bool → Option (Bool)
 | 0, _, _, _, _ => none
 | k + 1, x0, x1, x5, a1 => if a1 = true then (if 0 ≤ x5 then (if x5 < (x0.length : Int) then (if x5 < (x1.length : Int) then (if (rdOf ByteArray.empty x0 x5).toList = (rdOf ByteArray.empty x1 x5).toList then (spec_l3LessPre.l0 k x0 x1 (wrap64 (x5 + 1))) else ((spec_l3LessPart.f k (rdOf ByteArray.empty x0 x5) (rdOf ByteArray.empty x1 x5)).bind fun a2 => (some a2))) else (none)) else (none)) else (none)) else (some (decide ((x0.length : Int) < (x1.length : Int))))
end
def spec_l3LessPre.f (k : Nat) (l0 l1 : List ByteArray) : Option (Bool) := if (l0.length : Int) = 0 then (spec_l3LessPre.j0 k l0 l1 true) else (spec_l3LessPre.j0 k l0 l1 ((l1.length : Int) == 0))
theorem spec_l3LessPre.calls (k : Nat) (A0 : Option Addr) (c0 : Nat) (l0 : List ByteArray) (A1 : Option Addr) (c1 : Nat) (l1 : List ByteArray) (r : Bool) (w : World) (d8 : Kd.C Kd.string w A0 l0.length l0) (d9 : l0.length ≤ c0) (e0 : Kd.C Kd.string w A1 l1.length l1) (e1 : l1.length ≤ c1) (h : spec_l3LessPre.f k l0 l1 = some r) :
  Calls Tryz.prog 142 #[.slice A0 l0.length c0, .slice A1 l1.length c1] w fun e w' => e = .returned (.bool r) ∧ Drawn0 w w' := by
 have b6 := zA d8
 have f8 := zA d9
 clear d8 d9
 have b7 := zA e0
 have f9 := zA e1
 clear e0 e1
 unfold spec_l3LessPre.f at h
 have H := h
 clear h
 have b8 := zA H
 clear H
 go_enter Tryz.func142, Tryz.ntmps142
 go_upto_region 1 with (fail)
 repeat (go_quiet (fail); go_upto_region 1 with (fail))
 go_cut [13] (fun e7 wc => ∃ (kq : Nat) (b9 : Bool), e7 = .bool b9 ∧ Aside0 (spec_l3LessPre.j0 kq l0 l1 b9 = some r) ∧ Aside0 (kq ≤ k) ∧ Drawn0 w wc)
 case first =>
  have H := b8.out
  clear b8
  replace H := zI1 H
  rcases H with ⟨c4, H⟩ | ⟨c4, H⟩
  ·have a1 := beq_iff_eq.mpr c4
   have a9 := bne_eq_false_iff_eq.mpr c4
   clear c4
   (first | rw [a1] | (simp only [i64_w, i32_w]; rw [a1]) | skip)
   have H' := zA H
   clear H
   go_wp2
   repeat (go_quiet (fail); try go_wp2)
   go_meet
   case rel => exact ⟨_, (true), zS, (by first | exact H' | (subst_vars; exact H')), ⟨by first | omega | exact Nat.le_refl _⟩, by repeat (first | exact Drawn0.refl _ | apply Drawn0.step)⟩
  ·have a1 := beq_eq_false_iff_ne.mpr c4
   have a9 := bne_iff_ne.mpr c4
   have b1 : ¬ (l0 = []) := fun h_ => c4 (by rw [h_]; rfl)
   (first | rw [a1] | (simp only [i64_w, i32_w]; rw [a1]) | skip)
   have H' := zA H
   clear H
   go_wp2
   repeat (go_quiet (fail); try go_wp2)
   go_meet
   case rel => exact ⟨_, (((l1.length : Int) == 0)), zS, (by first | exact H' | (subst_vars; exact H')), ⟨by first | omega | exact Nat.le_refl _⟩, by repeat (first | exact Drawn0.refl _ | apply Drawn0.step)⟩
 case rest =>
  clear b8
  try clear c1
  try clear p2
  try clear c4
  try clear a1
  try clear a9
  try clear b1
  obtain ⟨kq, b9, rfl, HA, b0, ⟨g0, rfl⟩⟩ := hcut
  cases kq with
  | zero => exact absurd HA.out (by simp [spec_l3LessPre.j0])
  | succ e8 =>
   have H := HA.out
   clear HA
   simp only [spec_l3LessPre.j0] at H
   have c3 := zA H
   clear H
   go_upto_if 13 with (fail)
   repeat (go_quiet (fail); go_upto_if 13 with (fail))
   go_cut [] (fun wc => ∃ (kq : Nat), Aside0 (spec_l3LessPre.j1 kq l0 l1 = some r) ∧ Aside0 (kq ≤ e8) ∧ Drawn0 w wc)
   case first =>
    have H := c3.out
    clear c3
    replace H := zB0 H
    rcases H with ⟨rfl, H⟩ | ⟨rfl, H⟩
    ·replace H := zI1 H
     rcases H with ⟨c7, H⟩ | ⟨c7, H⟩
     ·have a2 : decide (0 < (l0.length : Int)) = true := decide_eq_true c7
      have b2 : decide (0 < l0.length) = true := decide_eq_true (by omega)
      clear c7
      (first | rw [a2] | (simp only [i64_w, i32_w]; rw [a2]) | skip)
      obtain rfl := zm H
      go_wp2
      repeat (go_quiet (fail); try go_wp2)
      go_ret
      exact ⟨by first | rfl | (simp; done) | (simp [*]; done) | (simp; rw [Bool.eq_iff_iff]; simp; done), by repeat (first | exact Drawn0.refl _ | apply Drawn0.step)⟩
     ·have a2 : decide (0 < (l0.length : Int)) = false := decide_eq_false c7
      have b2 : decide (0 < l0.length) = false := decide_eq_false (by omega)
      clear c7
      (first | rw [a2] | (simp only [i64_w, i32_w]; rw [a2]) | skip)
      obtain rfl := zm H
      go_wp2
      repeat (go_quiet (fail); try go_wp2)
      go_ret
      exact ⟨by first | rfl | (simp; done) | (simp [*]; done) | (simp; rw [Bool.eq_iff_iff]; simp; done), by repeat (first | exact Drawn0.refl _ | apply Drawn0.step)⟩
    ·have H' := zA H
     clear H
     go_wp2
     repeat (go_quiet (fail); try go_wp2)
     go_meet
     case rel => exact ⟨_, (by first | exact H' | (subst_vars; exact H')), ⟨by have := b0.out; first | omega | exact Nat.le_refl _⟩, by repeat (first | exact Drawn0.refl _ | apply Drawn0.step)⟩
   case rest =>
    clear c3
    try clear c1
    try clear c2
    try clear p2
    try clear c4
    try clear a1
    try clear a9
    try clear b1
    try clear c6
    try clear c7
    try clear a2
    try clear b2
    try clear p2
    obtain ⟨kq, HA, b3, ⟨g1, rfl⟩⟩ := hcut
    cases kq with
    | zero => exact absurd HA.out (by simp [spec_l3LessPre.j1])
    | succ e2 =>
     have H := HA.out
     clear HA
     simp only [spec_l3LessPre.j1] at H
     have H' := zA H
     clear H
     go_wp2
     repeat (go_quiet (fail); try go_wp2)
     go_loopg [5] e2 (fun kq v5 w' => ∃ (a0 : Int), v5 = .int .i64 a0 ∧ Aside0 (spec_l3LessPre.l0 kq l0 l1 a0 = some r) ∧ Aside0 (kq ≤ e2) ∧ Drawn0 w w')
     case atStart => exact ⟨(0), zS, H', ⟨Nat.le_refl _⟩, by repeat (first | exact Drawn0.refl _ | apply Drawn0.step)⟩
     case round =>
      clear H'
      try clear c1
      try clear c2
      try clear p2
      try clear c4
      try clear a1
      try clear a9
      try clear b1
      try clear c6
      try clear c7
      try clear a2
      try clear b2
      try clear p2
      obtain ⟨a0, rfl, HA, b4, ⟨m3, rfl⟩⟩ := hrel
      cases gk with
      | zero => exact absurd HA.out (by simp [spec_l3LessPre.l0])
      | succ k3 =>
       have H := HA.out
       clear HA
       simp only [spec_l3LessPre.l0] at H
       have c5 := zA H
       clear H
       go_upto_region 4 with (fail)
       repeat (go_quiet (fail); go_upto_region 4 with (fail))
       go_cut [31] (fun e9 wc => ∃ (kq : Nat) (c8 : Bool), e9 = .bool c8 ∧ Aside0 (spec_l3LessPre.j3 kq l0 l1 a0 c8 = some r) ∧ Aside0 (kq ≤ k3) ∧ Drawn0 w wc)
       case first =>
        have H := c5.out
        clear c5
        replace H := zI0 H
        rcases H with ⟨a7, H⟩ | ⟨a7, H⟩
        ·(first | rw [a7] | (simp only [i64_w, i32_w]; rw [a7]) | skip)
         have H' := zA H
         clear H
         go_wp2
         repeat (go_quiet (fail); try go_wp2)
         go_meet
         case rel => exact ⟨_, (decide (a0 < (l1.length : Int))), zS, (by first | exact H' | (subst_vars; exact H')), ⟨by have := b0.out; have := b3.out; have := b4.out; first | omega | exact Nat.le_refl _⟩, by repeat (first | exact Drawn0.refl _ | apply Drawn0.step)⟩
        ·(first | rw [a7] | (simp only [i64_w, i32_w]; rw [a7]) | skip)
         have H' := zA H
         clear H
         go_wp2
         repeat (go_quiet (fail); try go_wp2)
         go_meet
         case rel => exact ⟨_, (false), zS, (by first | exact H' | (subst_vars; exact H')), ⟨by have := b0.out; have := b3.out; have := b4.out; first | omega | exact Nat.le_refl _⟩, by repeat (first | exact Drawn0.refl _ | apply Drawn0.step)⟩
       case rest =>
        clear c5
        try clear c1
        try clear c2
        try clear p2
        try clear c4
        try clear a1
        try clear a9
        try clear b1
        try clear c6
        try clear c7
        try clear a2
        try clear b2
        try clear c9
        try clear a7
        try clear p2
        obtain ⟨kq, c8, rfl, HA, e3, ⟨g2, rfl⟩⟩ := hcut
        cases kq with
        | zero => exact absurd HA.out (by simp [spec_l3LessPre.j3])
        | succ b5 =>
         have H := HA.out
         clear HA
         simp only [spec_l3LessPre.j3] at H
         replace H := zB0 H
         rcases H with ⟨rfl, H⟩ | ⟨rfl, H⟩
         ·replace H := zD0 H
          obtain ⟨g3, H⟩ := H
          replace H := zD0 H
          obtain ⟨g4, H⟩ := H
          replace H := zD0 H
          obtain ⟨g5, H⟩ := H
          replace H := zI1 H
          rcases H with ⟨a8, H⟩ | ⟨a8, H⟩
          ·have f0 := beq_iff_eq.mpr a8
           have f1 := bne_eq_false_iff_eq.mpr a8
           clear a8
           have H' := zA H
           clear H
           have a3 : 0 ≤ (a0 : Int) := zD
           have a4 : a0 < (l0.length : Int) := zD
           obtain ⟨e4, d0, f2⟩ := Kd.at_string b6.out a0 a3 a4
           cases d0
           replace a3 := eq_true a3
           replace a4 := eq_true a4
           have a5 : 0 ≤ (a0 : Int) := zD
           have a6 : a0 < (l1.length : Int) := zD
           obtain ⟨e5, d1, f3⟩ := Kd.at_string b7.out a0 a5 a6
           cases d1
           replace a5 := eq_true a5
           replace a6 := eq_true a6
           go_wp2
           repeat (go_quiet (fail); try go_wp2)
           go_roundg b5
           case measure => have := b0.out; have := b3.out; have := b4.out; have := e3.out; omega
           case rel => exact ⟨(wrap64 (a0 + 1)), zS, H', ⟨by have := b0.out; have := b3.out; have := b4.out; have := e3.out; omega⟩, by repeat (first | exact Drawn0.refl _ | apply Drawn0.step)⟩
          ·have f0 := beq_eq_false_iff_ne.mpr a8
           have f1 := bne_iff_ne.mpr a8
           replace H := Option.bind_eq_some_iff.mp H
           obtain ⟨d2, e6, H⟩ := H
           try dsimp only at H
           have d3 := zA e6
           clear e6
           obtain rfl := zm H
           have a3 : 0 ≤ (a0 : Int) := zD
           have a4 : a0 < (l0.length : Int) := zD
           obtain ⟨e4, d0, f2⟩ := Kd.at_string b6.out a0 a3 a4
           cases d0
           replace a3 := eq_true a3
           replace a4 := eq_true a4
           have a5 : 0 ≤ (a0 : Int) := zD
           have a6 : a0 < (l1.length : Int) := zD
           obtain ⟨e5, d1, f3⟩ := Kd.at_string b7.out a0 a5 a6
           cases d1
           replace a5 := eq_true a5
           replace a6 := eq_true a6
           have d4 : 0 ≤ (a0 : Int) := zD
           have d5 : a0 < (l0.length : Int) := zD
           obtain ⟨f4, f5, g6⟩ := Kd.at_string b6.out a0 d4 d5
           obtain rfl : e4 = f4 := (by injection f5)
           replace d4 := eq_true d4
           replace d5 := eq_true d5
           have d6 : 0 ≤ (a0 : Int) := zD
           have d7 : a0 < (l1.length : Int) := zD
           obtain ⟨f6, f7, g7⟩ := Kd.at_string b7.out a0 d6 d7
           obtain rfl : e5 = f6 := (by injection f7)
           replace d6 := eq_true d6
           replace d7 := eq_true d7
           go_wp2_with (first | (go_at_call 173; (with_reducible refine (spec_l3LessPart.calls b5 (rdOf ByteArray.empty l0 a0) (rdOf ByteArray.empty l1 a0) d2 _ d3.out).mono ?_); rintro e w' ⟨rfl, ⟨nd, rfl⟩⟩; (try first | exact ⟨rfl, _, World.drewN_drewN _ _ _⟩ | exact ⟨rfl, _, Eq.trans (World.drewN_drewN _ _ _) (congrArg (World.drewN _) (Nat.add_assoc _ _ _))⟩)))
           repeat (go_quiet (first | (go_at_call 173; (with_reducible refine (spec_l3LessPart.calls b5 (rdOf ByteArray.empty l0 a0) (rdOf ByteArray.empty l1 a0) d2 _ d3.out).mono ?_); rintro e w' ⟨rfl, ⟨nd, rfl⟩⟩; (try first | exact ⟨rfl, _, World.drewN_drewN _ _ _⟩ | exact ⟨rfl, _, Eq.trans (World.drewN_drewN _ _ _) (congrArg (World.drewN _) (Nat.add_assoc _ _ _))⟩))); try go_wp2_with (first | (go_at_call 173; (with_reducible refine (spec_l3LessPart.calls b5 (rdOf ByteArray.empty l0 a0) (rdOf ByteArray.empty l1 a0) d2 _ d3.out).mono ?_); rintro e w' ⟨rfl, ⟨nd, rfl⟩⟩; (try first | exact ⟨rfl, _, World.drewN_drewN _ _ _⟩ | exact ⟨rfl, _, Eq.trans (World.drewN_drewN _ _ _) (congrArg (World.drewN _) (Nat.add_assoc _ _ _))⟩))))
           go_ret
           exact ⟨by first | rfl | (simp; done) | (simp [*]; done) | (simp; rw [Bool.eq_iff_iff]; simp; done), by repeat (first | exact Drawn0.refl _ | apply Drawn0.step)⟩
         ·obtain rfl := zm H
          go_wp2
          repeat (go_quiet (fail); try go_wp2)
          go_ret
          exact ⟨by first | rfl | (simp; done) | (simp [*]; done) | (simp; rw [Bool.eq_iff_iff]; simp; done), by repeat (first | exact Drawn0.refl _ | apply Drawn0.step)⟩
/-! ### spec_LessVer: function 100 -/
def spec_LessVer.f (k : Nat) (a0 a1 a2 : Int) (a6 : List ByteArray) (a3 a4 a5 : Int) (a7 : List ByteArray) : Option (Bool) := if a0 = a3 then (if a1 = a4 then (if a2 = a5 then ((spec_l3LessPre.f k a6 a7).bind fun a8 => (some a8)) else (some (decide (a2 < a5)))) else (some (decide (a1 < a4)))) else (some (decide (a0 < a3)))
theorem spec_LessVer.calls (k : Nat) (b1 b2 b3 : Int) (a5 : Option Addr) (a6 : Nat) (a0 : List ByteArray) (b4 b5 b6 : Int) (a7 : Option Addr) (a8 : Nat) (a1 : List ByteArray) (r : Bool) (w : World) (b9 : Kd.C Kd.string w a5 a0.length a0) (c0 : a0.length ≤ a6) (c1 : Kd.C Kd.string w a7 a1.length a1) (c2 : a1.length ≤ a8) (h : spec_LessVer.f k b1 b2 b3 a0 b4 b5 b6 a1 = some r) :
  Calls Tryz.prog 100 #[.agg #[.int .i64 b1, .int .i64 b2, .int .i64 b3, .slice a5 a0.length a6], .agg #[.int .i64 b4, .int .i64 b5, .int .i64 b6, .slice a7 a1.length a8]] w fun e w' => e = .returned (.bool r) ∧ Below w.heap.size w w' := by
 have d5 := Tryz.underlying32
 have c7 := zA b9
 have c8 := zA c0
 clear b9 c0
 have c9 := zA c1
 have d0 := zA c2
 clear c1 c2
 have HB := zA (Below.refl w.heap.size w)
 unfold spec_LessVer.f at h
 have H := h
 clear h
 go_enter Tryz.func100, Tryz.ntmps100
 go_upto_if 5 with (first | ((with_reducible refine zd 2 ?_); refine ze 2 32 #[.int .i64 b1, .int .i64 b2, .int .i64 b3, .slice a5 a0.length a6] ?_; intro d6 hg w7 hbox hb; have a2 := zA (hbox); have d7 := zi HB hg; have d8 := zi HB hg; replace HB := zA (below_step (zB) hb); clear hb hbox hg) | ((with_reducible refine zd 3 ?_); refine ze 3 32 #[.int .i64 b4, .int .i64 b5, .int .i64 b6, .slice a7 a1.length a8] ?_; intro d9 hg w8 hbox hb; have d1 := zA (hbox); have e0 := zi HB hg; have e1 := zi HB hg; replace HB := zh HB hb; have d2 := zA (zL hg (zK a2.out)); have d3 := zA (zJ hg (zK a2.out)); replace a2 := zb a2 hb; clear hb hbox hg; have e2 := d2.out; have e3 := d3.out; obtain ⟨e4, e5, e6, e7, e8, e9, f0, f1⟩ := ze4 a2.out; obtain ⟨f2, f3, f4, f5, f6, f7, f8, f9⟩ := ze4 d1.out))
 (try simp only [Act.put, zT])
 replace H := zI1 H
 rcases H with ⟨c3, H⟩ | ⟨c3, H⟩
 ·have a3 := beq_iff_eq.mpr c3
  have a4 := bne_eq_false_iff_eq.mpr c3
  clear c3
  replace H := zI1 H
  rcases H with ⟨c4, H⟩ | ⟨c4, H⟩
  ·have a9 := beq_iff_eq.mpr c4
   have b0 := bne_eq_false_iff_eq.mpr c4
   clear c4
   replace H := zI1 H
   rcases H with ⟨c5, H⟩ | ⟨c5, H⟩
   ·have b7 := beq_iff_eq.mpr c5
    have b8 := bne_eq_false_iff_eq.mpr c5
    clear c5
    replace H := Option.bind_eq_some_iff.mp H
    obtain ⟨d4, c6, H⟩ := H
    try dsimp only at H
    have A6 := zA c6
    clear c6
    obtain rfl := zm H
    (try simp only [a3, a4, a9, b0, b7, b8])
    go_wp2_with (first | ((with_reducible refine zq 142 ?_); refine zg (some 42) Tryz.func142 #[.slice a5 a0.length a6, .slice a7 a1.length a8] ?_; (with_reducible refine (spec_l3LessPre.calls k _ _ a0 _ _ a1 d4 _ ?s1 ?s2 ?s3 ?s4 A6.out).mono ?_); (case s1 => exact zC (Kd.C_below c7.out HB.out)); (case s2 => exact c8.out); (case s3 => exact zC (Kd.C_below c9.out HB.out)); (case s4 => exact d0.out); rintro e w' ⟨rfl, ⟨nd, rfl⟩⟩; refine ⟨_, rfl, ?_⟩))
    go_ret
    exact ⟨zE, zW HB.out⟩
   ·have b7 := beq_eq_false_iff_ne.mpr c5
    have b8 := bne_iff_ne.mpr c5
    obtain rfl := zm H
    (try simp only [a3, a4, a9, b0, b7, b8])
    go_wp2
    go_ret
    exact ⟨zE, zW HB.out⟩
  ·have a9 := beq_eq_false_iff_ne.mpr c4
   have b0 := bne_iff_ne.mpr c4
   obtain rfl := zm H
   (try simp only [a3, a4, a9, b0])
   go_wp2
   go_ret
   exact ⟨zE, zW HB.out⟩
 ·have a3 := beq_eq_false_iff_ne.mpr c3
  have a4 := bne_iff_ne.mpr c3
  obtain rfl := zm H
  (try simp only [a3, a4])
  go_wp2
  go_ret
  exact ⟨zE, zW HB.out⟩
/-! ### spec_l8Less: function 69 -/
def spec_l8Less.f (k : Nat) (a0 : ByteArray) (a2 a3 a4 : Int) (a5 : List ByteArray) (b1 : List (S30)) (a1 : ByteArray) (a6 a7 a8 : Int) (a9 : List ByteArray) (b2 : List (S30)) : Option (Bool) := if a0.toList = a1.toList then ((spec_LessVer.f k a2 a3 a4 a5 a6 a7 a8 a9).bind fun b0 => (some b0)) else (some (Op.bytesLess a0.toList a1.toList))
theorem spec_l8Less.calls (k : Nat) (b5 : ByteArray) (a5 a6 a7 : Int) (b1 : Option Addr) (b2 : Nat) (a0 : List ByteArray) (b6 : Option Addr) (b7 : Nat) (a3 : List (S30)) (b8 : ByteArray) (a8 a9 b0 : Int) (b3 : Option Addr) (b4 : Nat) (a1 : List ByteArray) (b9 : Option Addr) (c0 : Nat) (a4 : List (S30)) (r : Bool) (w : World) (c5 : Kd.C Kd.string w b1 a0.length a0) (c6 : a0.length ≤ b2) (c7 : Kd.C k30 w b6 a3.length a3) (c8 : a3.length ≤ b7) (c9 : Kd.C Kd.string w b3 a1.length a1) (d0 : a1.length ≤ b4) (d1 : Kd.C k30 w b9 a4.length a4) (d2 : a4.length ≤ c0) (h : spec_l8Less.f k b5 a5 a6 a7 a0 a3 b8 a8 a9 b0 a1 a4 = some r) :
  Calls Tryz.prog 69 #[.agg #[.string b5, .int .i64 a5, .int .i64 a6, .int .i64 a7, .slice b1 a0.length b2, .slice b6 a3.length b7], .agg #[.string b8, .int .i64 a8, .int .i64 a9, .int .i64 b0, .slice b3 a1.length b4, .slice b9 a4.length c0]] w fun e w' => e = .returned (.bool r) ∧ Below w.heap.size w w' := by
 have e1 := Tryz.underlying102
 have e2 := Tryz.underlying32
 have d4 := zA c5
 have d5 := zA c6
 clear c5 c6
 have e3 := zA c7
 have e4 := zA c8
 clear c7 c8
 have d6 := zA c9
 have d7 := zA d0
 clear c9 d0
 have e5 := zA d1
 have e6 := zA d2
 clear d1 d2
 have HB := zA (Below.refl w.heap.size w)
 unfold spec_l8Less.f at h
 have H := h
 clear h
 go_enter Tryz.func69, Tryz.ntmps69
 go_upto_if 9 with (first | ((with_reducible refine zd 2 ?_); refine ze 2 102 #[.string b5, .int .i64 a5, .int .i64 a6, .int .i64 a7, .slice b1 a0.length b2, .slice b6 a3.length b7] ?_; intro e7 hg w5 hbox hb; have a2 := zA (hbox); have e8 := zi HB hg; have e9 := zi HB hg; replace HB := zA (below_step (zB) hb); clear hb hbox hg) | ((with_reducible refine zd 3 ?_); refine ze 3 102 #[.string b8, .int .i64 a8, .int .i64 a9, .int .i64 b0, .slice b3 a1.length b4, .slice b9 a4.length c0] ?_; intro f0 hg w6 hbox hb; have c1 := zA (hbox); have f1 := zi HB hg; have f2 := zi HB hg; replace HB := zh HB hb; have d8 := zA (zL hg (zK a2.out)); have d9 := zA (zJ hg (zK a2.out)); replace a2 := zb a2 hb; clear hb hbox hg; have f3 := d8.out; have f4 := d9.out; obtain ⟨f5, f6, f7, f8, f9, g0, g1, g2, g3, g4, g5, g6⟩ := ze6 a2.out; obtain ⟨g7, g8, g9, h0, h1, h2, h3, h4, h5, h6, h7, h8⟩ := ze6 c1.out))
 (try simp only [Act.put, zT])
 replace H := zI1 H
 rcases H with ⟨c3, H⟩ | ⟨c3, H⟩
 ·have c2 := beq_iff_eq.mpr c3
  have c4 := bne_eq_false_iff_eq.mpr c3
  clear c3
  replace H := Option.bind_eq_some_iff.mp H
  obtain ⟨e0, d3, H⟩ := H
  try dsimp only at H
  have A4 := zA d3
  clear d3
  obtain rfl := zm H
  (try simp only [c2, c4])
  go_wp2_with (first | ((with_reducible refine zq 100 ?_); refine zg (some 19) Tryz.func100 #[.agg #[.int .i64 a5, .int .i64 a6, .int .i64 a7, .slice b1 a0.length b2], .agg #[.int .i64 a8, .int .i64 a9, .int .i64 b0, .slice b3 a1.length b4]] ?_; (with_reducible refine (spec_LessVer.calls k a5 a6 a7 _ _ a0 a8 a9 b0 _ _ a1 e0 _ ?s1 ?s2 ?s3 ?s4 A4.out).mono ?_); (case s1 => exact zC (Kd.C_below d4.out HB.out)); (case s2 => exact d5.out); (case s3 => exact zC (Kd.C_below d6.out HB.out)); (case s4 => exact d7.out); rintro e h9 ⟨rfl, hb⟩; refine ⟨_, rfl, ?_⟩; replace a2 := zb a2 hb; replace c1 := zb c1 hb; replace HB := zh HB hb; (try clear hb)))
  go_ret
  exact ⟨zE, zW HB.out⟩
 ·have c2 := beq_eq_false_iff_ne.mpr c3
  have c4 := bne_iff_ne.mpr c3
  obtain rfl := zm H
  (try simp only [c2, c4])
  go_wp2
  go_ret
  exact ⟨zE, zW HB.out⟩
end Go.Proofs.YtpcdhoeoefoeoaaGreatDoor.PGD
