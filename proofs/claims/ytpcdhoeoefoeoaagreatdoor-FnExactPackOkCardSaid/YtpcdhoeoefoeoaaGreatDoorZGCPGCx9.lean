/- The walks of the functions that these laws reach, and what each comes to: printed by this session's program. -/
import Derived.Deep.CutBlock
import Derived.Test.YtpcdhoeoefoeoaaGreatDoorZGCPGCx0
import Derived.Test.YtpcdhoeoefoeoaaGreatDoorZGCPGCx3
import Derived.Test.YtpcdhoeoefoeoaaGreatDoorZGCPGCx4
import Derived.Test.YtpcdhoeoefoeoaaGreatDoorZGCPGCx8
import Derived.Test.YtpcdhoeoefoeoaaGreatDoorZGCSays
import Derived.Test.YtpcdhoeoefoeoaaGreatDoorZGCRegN
namespace Go.Proofs.YtpcdhoeoefoeoaaGreatDoor.PGC
open Go.RowKit YtpcdhoeoefoeoaaGreatDoorW.PrintWords YtpcdhoeoefoeoaaGreatDoorW.PrintLast YtpcdhoeoefoeoaaGreatDoorW.PrintMore
attribute [local go_sem high] Mine.str_gtr Mine.str_leq Mine.str_geq
attribute [local go_sem] max2_int min2_int max_two min_two max_three min_three max_four min_four   -- for this text's walks alone
set_option linter.unusedVariables false
set_option maxHeartbeats 8000000
set_option maxRecDepth 100000
set_option linter.unusedSimpArgs false
/-! ### spec_l4List: function 77 -/
mutual
def spec_l4List.j0 : Nat → List ByteArray → List (S75) → Bool → Option ((List (S75)) × Bool)
 | 0, _, _, _ => none
 | k + 1, x0, x4, a4 => if a4 = true then (if 0 < (x0.length : Int) then ((spec_ParseVer.f k (rdOf ByteArray.empty x0 0)).bind fun a0 => (if 2 < (x0.length : Int) then ((spec_ParseVer.f k (rdOf ByteArray.empty x0 2)).bind fun a1 => ((some (([(⟨4, (⟨a0.1, a0.2.1, a0.2.2.1, a0.2.2.2.1⟩ : S32)⟩ : S75), (⟨2, (⟨a1.1, a1.2.1, a1.2.2.1, a1.2.2.2.1⟩ : S32)⟩ : S75)] : List (S75)) : List (S75))).bind fun a3 => (if a0.2.2.2.2 = true then (some (a3, a1.2.2.2.2)) else (some (a3, false))))) else (none))) else (none)) else (spec_l4List.j1 k x0 x4)
def spec_l4List.j1 : Nat → List ByteArray → List (S75) → Option ((List (S75)) × Bool)
 | 0, _, _ => none
 | k + 1, x0, x4 => spec_l4List.l0 k x0 x4 0
def spec_l4List.l0 : Nat → List ByteArray → List (S75) → Int → Option ((List (S75)) × Bool)
 | 0, _, _, _ => none
 | k + 1, x0, x4, x9 => if x9 < (x0.length : Int) then (if 0 ≤ x9 then ((spec_l4Word.f k (rdOf ByteArray.empty x0 x9)).bind fun a2 => (if a2.2 = true then (if x4.length + a2.1.length < 2513169434916 then (spec_l4List.l0 k x0 (x4 ++ a2.1) (wrap64 (x9 + 1))) else (none)) else (some (x4, false)))) else (none)) else (some (x4, decide ((x4.length : Int) ≤ 4)))
end
def spec_l4List.f (k : Nat) (l0 : List ByteArray) : Option ((List (S75)) × Bool) := (some (([] : List (S75)) : List (S75))).bind fun a0 => (if (l0.length : Int) = 3 then (if 1 < (l0.length : Int) then (spec_l4List.j0 k l0 a0 ((rdOf ByteArray.empty l0 1).toList == ([45] : List UInt8))) else (none)) else (spec_l4List.j0 k l0 a0 false))
theorem spec_l4List.calls (k : Nat) (A0 : Option Addr) (c0 : Nat) (l0 : List ByteArray) (r1 : List (S75)) (r2 : Bool) (w : World) (i6 : Kd.C Kd.string w A0 l0.length l0) (i7 : l0.length ≤ c0) (h : spec_l4List.f k l0 = some (r1, r2)) :
  Calls Tryz.prog 77 #[.slice A0 l0.length c0] w fun e w' => ∃ i8 : Value, e = .returned (.tuple #[i8, .bool r2]) ∧ Kd.N k75 75 w' w.heap.size (fun k_ => (w.heap.size ≤ k_)) i8 r1 ∧ Below w.heap.size w w' := by
 have x3 := Tryz.underlying32
 have x4 := Tryz.underlying75
 have e1 := Aside0.mk i6
 have x5 := Aside0.mk i7
 clear i6 i7
 have HB := zA (Below.refl w.heap.size w)
 unfold spec_l4List.f at h
 have H := h
 clear h
 obtain ⟨d0, g9⟩ : ∃ y_ : List (S75), y_ = (([] : List (S75))) := ⟨_, rfl⟩
 replace H : (if (l0.length : Int) = 3 then (if 1 < (l0.length : Int) then (spec_l4List.j0 k l0 d0 ((rdOf ByteArray.empty l0 1).toList == ([45] : List UInt8))) else (none)) else (spec_l4List.j0 k l0 d0 false)) = some (r1, r2) := zY g9 H
 have i9 := Aside0.mk g9
 clear g9
 have h0 := Aside0.mk H
 clear H
 go_enter Tryz.func77, Tryz.ntmps77
 go_upto_region 2 with (first | ((with_reducible refine gate_dst (N := 12) rfl ?_); refine Kd.N_lit k75 _ 75 ?hg (N' := 12) ?hd (xs := ([] : List (S75))) (inner := []) (ok := (fun k_ => (w.heap.size ≤ k_))) ?hr ?hp (fun _ hk => hk) ((show ∀ k_, w.heap.size ≤ k_ → (fun k_ => (w.heap.size ≤ k_)) k_ from fun k_ hk => (Nat.le_trans (below_size (zB)) hk)) _ (Nat.le_refl _)) (Below.refl _ _) (Nat.le_refl _) (by simp) ?_; (case hd => rfl); (case hg => rfl); (case hr => first | (go_simp; done) | (go_simp; rfl)); (case hp => exact (Reps.none _ _)); intro b7 w3 f7 hb hg_ hnew_; clear hg_ hnew_; (first | rw [← i9.out] at f7 | (simp only [Int.reduceToNat] at f7; rw [← i9.out] at f7)); have j2 := zA (Kd.N_lower f7 (below_size (zB))); replace HB := zA (below_step (zB) hb); clear hb f7))
 (try simp only [Act.put, zT])
 go_cut [21] (fun r6 wc => ∃ (kq : Nat) (h1 : Bool), r6 = .bool h1 ∧ Aside0 (spec_l4List.j0 kq l0 d0 h1 = some (r1, r2)) ∧ Aside0 (kq ≤ k) ∧ Aside0 (Kd.N k75 75 wc w.heap.size (fun k_ => (w.heap.size ≤ k_)) b7 d0) ∧ Aside0 (Below w.heap.size w wc))
 case first =>
  have H := h0.out
  clear h0
  replace H := zI1 H
  rcases H with ⟨c5, H⟩ | ⟨c5, H⟩
  ·have e0 := beq_iff_eq.mpr c5
   have g2 := bne_eq_false_iff_eq.mpr c5
   clear c5
   (first | rw [e0] | (simp only [i64_w, i32_w]; rw [e0]) | skip)
   replace H := zC0 H
   obtain ⟨c6, H⟩ := H
   have h2 := decide_eq_true c6
   have h3 : decide (1 < l0.length) = true := decide_eq_true (by omega)
   clear c6
   have H' := Aside0.mk H
   clear H
   have f3 : 0 ≤ (1 : Int) := (by omega)
   have f4 : 1 < (l0.length : Int) := zD
   obtain ⟨x6, r7, e2⟩ := Kd.at_string e1.out 1 f3 f4
   cases r7
   (try simp only [show (1 : Int).toNat = 1 from rfl, Nat.reduceMul, Nat.reduceEqDiff, Go.Addr.add, ↓reduceIte] at e2)
   have x7 : (1 < l0.length) = True := eq_true (by omega)
   (try rw [show ((1 : Int)).toNat = 1 from rfl] at e2)
   replace e2 := zx HB e2
   replace f3 := eq_true f3
   replace f4 := eq_true f4
   go_wp2
   go_meet
   case rel => exact ⟨_, (((rdOf ByteArray.empty l0 1).toList == ([45] : List UInt8))), zS, (by first | exact H' | (subst_vars; exact H')), ⟨by first | omega | exact Nat.le_refl _⟩, ⟨zN j2.out⟩, ⟨zB⟩⟩
  ·have e0 := beq_eq_false_iff_ne.mpr c5
   have g2 := bne_iff_ne.mpr c5
   (first | rw [e0] | (simp only [i64_w, i32_w]; rw [e0]) | skip)
   have H' := Aside0.mk H
   clear H
   go_wp2
   go_meet
   case rel => exact ⟨_, (false), zS, (by first | exact H' | (subst_vars; exact H')), ⟨by first | omega | exact Nat.le_refl _⟩, ⟨zN j2.out⟩, ⟨zB⟩⟩
 case rest =>
  clear h0
  try clear p2
  try clear p3
  try clear q3
  try clear hx3
  try clear qi3
  try clear c5
  try clear e0
  try clear g2
  try clear c6
  try clear h2
  try clear h3
  try clear e2
  try clear f3
  try clear f4
  obtain ⟨kq, h1, rfl, HA, h4, a0, HB⟩ := hcut
  cases kq with
  | zero => exact absurd HA.out (by simp [spec_l4List.j0])
  | succ f8 =>
   have H := HA.out
   clear HA
   simp only [spec_l4List.j0] at H
   have h5 := Aside0.mk H
   clear H
   go_upto_if 21 with (fail)
   go_cut [] (fun wc => ∃ (kq : Nat), Aside0 (spec_l4List.j1 kq l0 d0 = some (r1, r2)) ∧ Aside0 (kq ≤ f8) ∧ Aside0 (Kd.N k75 75 wc w.heap.size (fun k_ => (w.heap.size ≤ k_)) b7 d0) ∧ Aside0 (Below w.heap.size w wc))
   case first =>
    have H := h5.out
    clear h5
    replace H := zB0 H
    rcases H with ⟨rfl, H⟩ | ⟨rfl, H⟩
    ·replace H := zC0 H
     obtain ⟨c9, H⟩ := H
     have g3 := decide_eq_true c9
     have j3 : decide (0 < l0.length) = true := decide_eq_true (by omega)
     clear c9
     (first | rw [g3] | (simp only [i64_w, i32_w]; rw [g3]) | skip)
     replace H := zj H
     obtain ⟨⟨b0, b1, b2, a7, r8⟩, j4, H⟩ := H
     try dsimp only at H
     replace H := zC0 H
     obtain ⟨g4, H⟩ := H
     have j5 := decide_eq_true g4
     have j6 : decide (2 < l0.length) = true := decide_eq_true (by omega)
     clear g4
     replace H := zj H
     obtain ⟨⟨b3, b4, b5, a8, h6⟩, j7, H⟩ := H
     try dsimp only at H
     obtain ⟨j8, h7⟩ : ∃ y_ : List (S75), y_ = (([(⟨4, (⟨b0, b1, b2, a7⟩ : S32)⟩ : S75), (⟨2, (⟨b3, b4, b5, a8⟩ : S32)⟩ : S75)] : List (S75))) := ⟨_, rfl⟩
     replace H : (if r8 = true then (some (j8, h6)) else (some (j8, false))) = some (r1, r2) := zY h7 H
     have g5 := Aside0.mk h7
     clear h7
     replace H := zB0 H
     rcases H with ⟨rfl, H⟩ | ⟨rfl, H⟩
     ·simp only [Option.some.injEq, Prod.mk.injEq] at H
      obtain ⟨rfl, rfl⟩ := H
      have d1 : 0 ≤ (0 : Int) := (by omega)
      have d2 : 0 < (l0.length : Int) := zD
      obtain ⟨b9, h8, c4⟩ := Kd.at_string e1.out 0 d1 d2
      cases h8
      have r9 : (0 < l0.length) = True := eq_true (by omega)
      (try rw [show ((0 : Int)).toNat = 0 from rfl] at c4)
      (try rw [Addr.add_zero'] at c4)
      replace c4 := zx HB c4
      replace d1 := eq_true d1
      replace d2 := eq_true d2
      go_wp2_with (first | ((with_reducible refine zq 124 ?_); refine zg (some 26) Tryz.func124 #[.string (rdOf ByteArray.empty l0 0)] ?_; (with_reducible refine (spec_ParseVer.calls f8 (rdOf ByteArray.empty l0 0) b0 b1 b2 a7 true _ j4.out).mono ?_); rintro e x8 ⟨t0, rfl, a9, hb⟩; refine ⟨_, rfl, ?_⟩; replace a0 := zA (Kd.N_elder' (zN a0.out) (Kd.R_base a9) hb); have a4 := zA (Kd.R_lower (Kd.R_newM (M := fun k_ => (w.heap.size ≤ k_)) a9 (below_size (zB)) (fun k_ h_ => h_)) (below_size (zB))); replace HB := zA (below_step (zB) hb); (try clear hb a9)) | ((with_reducible refine zd 5 ?_); refine ze 5 32 #[.int .i64 0, .int .i64 0, .int .i64 0, .slice none 0 0] ?_; intro a2 hg x9 hbox hb; replace a0 := zA (Kd.N_below (Kd.N_elderB (zN a0.out) a2 (Nat.le_of_eq hg.symm)) hb); replace a4 := zr a4 hb; have a1 := zA (hbox); have d3 := zi HB hg; have t1 := zi HB hg; replace HB := zA (below_step (zB) hb); clear hb hbox hg; obtain ⟨j9, k0, k1, k2, k4, k5, k6, k7⟩ := ze4 a1.out; obtain ⟨e3, e4, t2⟩ := Kd.R_slice a4.out; subst t2; have d4 : 0 ≤ (2 : Int) := (by omega); have d5 : 2 < (l0.length : Int) := zD; obtain ⟨h9, i0, a3⟩ := Kd.at_string e1.out 2 d4 d5; obtain rfl : b9 = h9 := (by injection i0); (try simp only [show (2 : Int).toNat = 2 from rfl, Nat.reduceMul, Nat.reduceEqDiff, Go.Addr.add, ↓reduceIte] at a3); have t3 : (2 < l0.length) = True := eq_true (by omega); (try rw [show ((2 : Int)).toNat = 2 from rfl] at a3); have d6 : b9.block ≠ a2 := Nat.ne_of_lt (Nat.lt_of_lt_of_le (by have := World.block_lt_of_cell? _ _ a3; first | rwa [add_block] at this | exact this) d3.out); have d7 : b9.block ≠ a2 := Nat.ne_of_lt (Nat.lt_of_lt_of_le (by have := World.block_lt_of_cell? _ _ a3; first | rwa [add_block] at this | exact this) d3.out); have d8 : b9.block ≠ a2 := Nat.ne_of_lt (Nat.lt_of_lt_of_le (by have := World.block_lt_of_cell? _ _ a3; first | rwa [add_block] at this | exact this) d3.out); have d9 : b9.block ≠ a2 := Nat.ne_of_lt (Nat.lt_of_lt_of_le (by have := World.block_lt_of_cell? _ _ a3; first | rwa [add_block] at this | exact this) d3.out); replace a3 := zx HB a3; replace a3 := (cell_far (p := ⟨a2, 0, none⟩) (by first | (rw [add_block]; exact d6) | (show (Addr.add _ _).block ≠ _; rw [add_block]; exact d6) | exact d6) (.int .i64 b0)).trans a3; replace a3 := (cell_far (p := ⟨a2, 1, none⟩) (by first | (rw [add_block]; exact d7) | (show (Addr.add _ _).block ≠ _; rw [add_block]; exact d7) | exact d7) (.int .i64 b1)).trans a3; replace a3 := (cell_far (p := ⟨a2, 2, none⟩) (by first | (rw [add_block]; exact d8) | (show (Addr.add _ _).block ≠ _; rw [add_block]; exact d8) | exact d8) (.int .i64 b2)).trans a3; replace a3 := (cell_far (p := ⟨a2, 3, none⟩) (by first | (rw [add_block]; exact d9) | (show (Addr.add _ _).block ≠ _; rw [add_block]; exact d9) | exact d9) (.slice e3 a7.length e4)).trans a3; clear d6; clear d7; clear d8; clear d9; replace d4 := eq_true d4; replace d5 := eq_true d5) | ((with_reducible refine zq 124 ?_); refine zg (some 33) Tryz.func124 #[.string (rdOf ByteArray.empty l0 2)] ?_; (with_reducible refine (spec_ParseVer.calls f8 (rdOf ByteArray.empty l0 2) b3 b4 b5 a8 h6 _ j7.out).mono ?_); rintro e y0 ⟨t4, rfl, a9, hb⟩; refine ⟨_, rfl, ?_⟩; replace a0 := zA (Kd.N_elder' (zNt (zn4 a0.out (fun _ hk => hk.2))) (Kd.R_base a9) hb); have b6 := zA (Kd.R_lower (Kd.R_new' (Kd.R_newM (M := fun k_ => (w.heap.size ≤ k_)) a9 (below_size (zW HB.out)) (fun k_ h_ => h_)) (Kd.R_lt (zR (zr4 a4.out a1.out)))) (below_size (zW HB.out))); replace a4 := zA (Kd.R_elder' (zR (zr4 a4.out a1.out)) (Kd.R_base a9) hb); replace a1 := zA (blk_below (zk4 a1.out) hb); replace HB := zh HB hb; (try clear hb a9)) | ((with_reducible refine zd 7 ?_); refine ze 7 32 #[.int .i64 0, .int .i64 0, .int .i64 0, .slice none 0 0] ?_; intro a5 hg t5 hbox hb; replace a0 := zA (Kd.N_below (Kd.N_elderB (zN a0.out) a5 (Nat.le_of_eq hg.symm)) hb); replace a4 := zr a4 hb; replace b6 := zr b6 hb; have a6 := zA (hbox); have t6 := zi HB hg; have t7 := zi HB hg; replace HB := zh HB hb; have i1 := zA (zL hg (zK a1.out)); have i2 := zA (zJ hg (zK a1.out)); replace a1 := zb a1 hb; clear hb hbox hg; have y1 := i2.out; have y2 := i1.out; obtain ⟨k8, k9, l1, l2, l3, l4, l5, l6⟩ := ze4 a6.out; obtain ⟨e5, e6, t8⟩ := Kd.R_slice b6.out; subst t8) | ((with_reducible refine gate_store (t := 32) (p := 7) rfl ?_); refine store_event (t := 32) (p := 7) (v := ?vo_w23) (w1 := ((((t5.setCell ⟨a5, 0, none⟩ (.int .i64 b3)).setCell ⟨a5, 1, none⟩ (.int .i64 b4)).setCell ⟨a5, 2, none⟩ (.int .i64 b5)).setCell ⟨a5, 3, none⟩ (.slice e5 a8.length e6))) ?hg ?ho ?hn ?hr ?_; (case ho => rfl); (case hg => rfl); (case hn => rfl); (case hr => first | (go_simp; done) | (go_simp; rfl)); intro g6 hw; replace a0 : Aside0 (Kd.N k75 75 g6 w.heap.size (fun k_ => (w.heap.size ≤ k_) ∧ some k_ ≠ (.slice e3 a7.length e4 : Value).ownBlock ∧ some k_ ≠ (.slice e5 a8.length e6 : Value).ownBlock ∧ k_ ≠ a2 ∧ k_ ≠ a5) b7 d0) := ⟨(by rw [hw]; exact (zNt (Kd.N_mono (zn4 a0.out (fun _ hk => hk.2)) (fun _ hk => ⟨hk.1.1.1.1, ⟨hk.1.1.1.2, ⟨hk.1.2, ⟨hk.1.1.2, hk.2⟩⟩⟩⟩))))⟩; replace a4 : Aside0 (Kd.R Kd.string 9 g6 w.heap.size (fun k_ => (w.heap.size ≤ k_) ∧ some k_ ≠ (.slice e5 a8.length e6 : Value).ownBlock) (.slice e3 a7.length e4) a7) := ⟨(by rw [hw]; exact (zR (Kd.R_mono (zr4 a4.out a6.out) (fun _ hk => ⟨hk.1.1, hk.2⟩))))⟩; replace b6 : Aside0 (Kd.R Kd.string 9 g6 w.heap.size (fun k_ => (w.heap.size ≤ k_) ∧ some k_ ≠ (.slice e3 a7.length e4 : Value).ownBlock) (.slice e5 a8.length e6) a8) := ⟨(by rw [hw]; exact (zR (Kd.R_mono (zr4 b6.out a6.out) (fun _ hk => ⟨hk.1.1, hk.2⟩))))⟩; replace a1 := zA (zh1 hw (zK a1.out)); replace a6 := zA (zh1 hw (zk4 a6.out)); replace HB := zA (zh2 hw (zW HB.out)); clear hw; obtain ⟨l7, l8, l9, m0, m1, m2, m3, m4⟩ := ze4 a1.out; obtain ⟨m5, m6, m7, m8, m9, n0, n1, n2⟩ := ze4 a6.out) | ((with_reducible refine gate_dst (N := 40) rfl ?_); refine Kd.N_lit k75 _ 75 ?hg (N' := 40) ?hd (xs := ([(⟨4, (⟨b0, b1, b2, a7⟩ : S32)⟩ : S75), (⟨2, (⟨b3, b4, b5, a8⟩ : S32)⟩ : S75)] : List (S75))) (inner := [.int .i64 4, .int .i64 b0, .int .i64 b1, .int .i64 b2, .slice e3 a7.length e4, .int .i64 2, .int .i64 b3, .int .i64 b4, .int .i64 b5, .slice e5 a8.length e6]) (ok := (fun k_ => (w.heap.size ≤ k_) ∧ some k_ ≠ (b7 : Value).ownBlock ∧ k_ ≠ a2 ∧ k_ ≠ a5)) ?hr ?hp (fun _ hk => hk) ((show ∀ k_, g6.heap.size ≤ k_ → (fun k_ => (w.heap.size ≤ k_) ∧ some k_ ≠ (b7 : Value).ownBlock ∧ k_ ≠ a2 ∧ k_ ≠ a5) k_ from fun k_ hk => ⟨(Nat.le_trans (below_size (zW HB.out)) hk), Kd.fresh' (Kd.N_lt (zN a0.out)) k_ hk, Kd.freshB (g := a2) (o := .cells #[.int .i64 b0, .int .i64 b1, .int .i64 b2, .slice e3 a7.length e4] 32 (0, 0)) (zK a1.out) k_ hk, Kd.freshB (g := a5) (o := .cells #[.int .i64 b3, .int .i64 b4, .int .i64 b5, .slice e5 a8.length e6] 32 (0, 0)) (zK a6.out) k_ hk⟩) _ (Nat.le_refl _)) (Below.refl _ _) (Nat.le_refl _) (by simp) ?_; (case hd => rfl); (case hg => rfl); (case hr => first | (go_simp; done) | (go_simp; rfl)); (case hp => exact (Reps.c5 (show Kd.FK k75 _ _ (⟨4, (⟨b0, b1, b2, a7⟩ : S32)⟩ : S75) [.int .i64 4, .int .i64 b0, .int .i64 b1, .int .i64 b2, .slice e3 a7.length e4] from (k75_mkF _ _ (⟨4, (⟨b0, b1, b2, a7⟩ : S32)⟩ : S75) (Kd.R_reads' (Kd.R_mono (ok' := (fun k_ => (w.heap.size ≤ k_) ∧ some k_ ≠ (b7 : Value).ownBlock ∧ k_ ≠ a2 ∧ k_ ≠ a5)) (Kd.R_types (Kd.R_types (Kd.R_apart' (a4.out) (Kd.N_typed a0.out) (by decide)) a1.out (by decide)) a6.out (by decide)) (fun k_ hk => ⟨hk.1.1.1.1, ⟨hk.1.1.2, ⟨hk.1.2, hk.2⟩⟩⟩))).2.1 (Kd.R_F (Kd.R_mono (ok' := (fun k_ => (w.heap.size ≤ k_) ∧ some k_ ≠ (b7 : Value).ownBlock ∧ k_ ≠ a2 ∧ k_ ≠ a5)) (Kd.R_types (Kd.R_types (Kd.R_apart' (a4.out) (Kd.N_typed a0.out) (by decide)) a1.out (by decide)) a6.out (by decide)) (fun k_ hk => ⟨hk.1.1.1.1, ⟨hk.1.1.2, ⟨hk.1.2, hk.2⟩⟩⟩))))) (Reps.c5 (show Kd.FK k75 _ _ (⟨2, (⟨b3, b4, b5, a8⟩ : S32)⟩ : S75) [.int .i64 2, .int .i64 b3, .int .i64 b4, .int .i64 b5, .slice e5 a8.length e6] from (k75_mkF _ _ (⟨2, (⟨b3, b4, b5, a8⟩ : S32)⟩ : S75) (Kd.R_reads' (Kd.R_mono (ok' := (fun k_ => (w.heap.size ≤ k_) ∧ some k_ ≠ (b7 : Value).ownBlock ∧ k_ ≠ a2 ∧ k_ ≠ a5)) (Kd.R_types (Kd.R_types (Kd.R_apart' (b6.out) (Kd.N_typed a0.out) (by decide)) a1.out (by decide)) a6.out (by decide)) (fun k_ hk => ⟨hk.1.1.1.1, ⟨hk.1.1.2, ⟨hk.1.2, hk.2⟩⟩⟩))).2.1 (Kd.R_F (Kd.R_mono (ok' := (fun k_ => (w.heap.size ≤ k_) ∧ some k_ ≠ (b7 : Value).ownBlock ∧ k_ ≠ a2 ∧ k_ ≠ a5)) (Kd.R_types (Kd.R_types (Kd.R_apart' (b6.out) (Kd.N_typed a0.out) (by decide)) a1.out (by decide)) a6.out (by decide)) (fun k_ hk => ⟨hk.1.1.1.1, ⟨hk.1.1.2, ⟨hk.1.2, hk.2⟩⟩⟩))))) (Reps.none _ _)))); intro t9 y3 f5 hb hg_ hnew_; clear hg_ hnew_; (first | rw [← g5.out] at f5 | (simp only [Int.reduceToNat] at f5; rw [← g5.out] at f5)); replace a0 := zA (Kd.N_elder' (zN a0.out) (Kd.N_base f5) hb); have i3 := zA (Kd.N_lower f5 (below_size (zW HB.out))); replace a1 := zb a1 hb; replace a6 := zb a6 hb; replace HB := zh HB hb; clear a4 b6; clear hb f5))
      go_ret2
      exact ⟨_, zE, zNt (Kd.N_mono i3.out (fun _ hk => hk.1)), zW HB.out⟩
     ·simp only [Option.some.injEq, Prod.mk.injEq] at H
      obtain ⟨rfl, rfl⟩ := H
      have d1 : 0 ≤ (0 : Int) := (by omega)
      have d2 : 0 < (l0.length : Int) := zD
      obtain ⟨b9, h8, c4⟩ := Kd.at_string e1.out 0 d1 d2
      cases h8
      have r9 : (0 < l0.length) = True := eq_true (by omega)
      (try rw [show ((0 : Int)).toNat = 0 from rfl] at c4)
      (try rw [Addr.add_zero'] at c4)
      replace c4 := zx HB c4
      replace d1 := eq_true d1
      replace d2 := eq_true d2
      go_wp2_with (first | ((with_reducible refine zq 124 ?_); refine zg (some 26) Tryz.func124 #[.string (rdOf ByteArray.empty l0 0)] ?_; (with_reducible refine (spec_ParseVer.calls f8 (rdOf ByteArray.empty l0 0) b0 b1 b2 a7 false _ j4.out).mono ?_); rintro e y4 ⟨t0, rfl, a9, hb⟩; refine ⟨_, rfl, ?_⟩; replace a0 := zA (Kd.N_elder' (zN a0.out) (Kd.R_base a9) hb); have a4 := zA (Kd.R_lower (Kd.R_newM (M := fun k_ => (w.heap.size ≤ k_)) a9 (below_size (zB)) (fun k_ h_ => h_)) (below_size (zB))); replace HB := zA (below_step (zB) hb); (try clear hb a9)) | ((with_reducible refine zd 5 ?_); refine ze 5 32 #[.int .i64 0, .int .i64 0, .int .i64 0, .slice none 0 0] ?_; intro a2 hg y5 hbox hb; replace a0 := zA (Kd.N_below (Kd.N_elderB (zN a0.out) a2 (Nat.le_of_eq hg.symm)) hb); replace a4 := zr a4 hb; have a1 := zA (hbox); have d3 := zi HB hg; have t1 := zi HB hg; replace HB := zA (below_step (zB) hb); clear hb hbox hg; obtain ⟨n3, n4, n5, n6, n7, n8, n9, o0⟩ := ze4 a1.out; obtain ⟨e7, e8, v0⟩ := Kd.R_slice a4.out; subst v0; have d4 : 0 ≤ (2 : Int) := (by omega); have d5 : 2 < (l0.length : Int) := zD; obtain ⟨h9, i0, a3⟩ := Kd.at_string e1.out 2 d4 d5; obtain rfl : b9 = h9 := (by injection i0); (try simp only [show (2 : Int).toNat = 2 from rfl, Nat.reduceMul, Nat.reduceEqDiff, Go.Addr.add, ↓reduceIte] at a3); have t3 : (2 < l0.length) = True := eq_true (by omega); (try rw [show ((2 : Int)).toNat = 2 from rfl] at a3); have d6 : b9.block ≠ a2 := Nat.ne_of_lt (Nat.lt_of_lt_of_le (by have := World.block_lt_of_cell? _ _ a3; first | rwa [add_block] at this | exact this) d3.out); have d7 : b9.block ≠ a2 := Nat.ne_of_lt (Nat.lt_of_lt_of_le (by have := World.block_lt_of_cell? _ _ a3; first | rwa [add_block] at this | exact this) d3.out); have d8 : b9.block ≠ a2 := Nat.ne_of_lt (Nat.lt_of_lt_of_le (by have := World.block_lt_of_cell? _ _ a3; first | rwa [add_block] at this | exact this) d3.out); have d9 : b9.block ≠ a2 := Nat.ne_of_lt (Nat.lt_of_lt_of_le (by have := World.block_lt_of_cell? _ _ a3; first | rwa [add_block] at this | exact this) d3.out); replace a3 := zx HB a3; replace a3 := (cell_far (p := ⟨a2, 0, none⟩) (by first | (rw [add_block]; exact d6) | (show (Addr.add _ _).block ≠ _; rw [add_block]; exact d6) | exact d6) (.int .i64 b0)).trans a3; replace a3 := (cell_far (p := ⟨a2, 1, none⟩) (by first | (rw [add_block]; exact d7) | (show (Addr.add _ _).block ≠ _; rw [add_block]; exact d7) | exact d7) (.int .i64 b1)).trans a3; replace a3 := (cell_far (p := ⟨a2, 2, none⟩) (by first | (rw [add_block]; exact d8) | (show (Addr.add _ _).block ≠ _; rw [add_block]; exact d8) | exact d8) (.int .i64 b2)).trans a3; replace a3 := (cell_far (p := ⟨a2, 3, none⟩) (by first | (rw [add_block]; exact d9) | (show (Addr.add _ _).block ≠ _; rw [add_block]; exact d9) | exact d9) (.slice e7 a7.length e8)).trans a3; clear d6; clear d7; clear d8; clear d9; replace d4 := eq_true d4; replace d5 := eq_true d5) | ((with_reducible refine zq 124 ?_); refine zg (some 33) Tryz.func124 #[.string (rdOf ByteArray.empty l0 2)] ?_; (with_reducible refine (spec_ParseVer.calls f8 (rdOf ByteArray.empty l0 2) b3 b4 b5 a8 h6 _ j7.out).mono ?_); rintro e y6 ⟨t4, rfl, a9, hb⟩; refine ⟨_, rfl, ?_⟩; replace a0 := zA (Kd.N_elder' (zNt (zn4 a0.out (fun _ hk => hk.2))) (Kd.R_base a9) hb); have b6 := zA (Kd.R_lower (Kd.R_new' (Kd.R_newM (M := fun k_ => (w.heap.size ≤ k_)) a9 (below_size (zW HB.out)) (fun k_ h_ => h_)) (Kd.R_lt (zR (zr4 a4.out a1.out)))) (below_size (zW HB.out))); replace a4 := zA (Kd.R_elder' (zR (zr4 a4.out a1.out)) (Kd.R_base a9) hb); replace a1 := zA (blk_below (zk4 a1.out) hb); replace HB := zh HB hb; (try clear hb a9)) | ((with_reducible refine zd 7 ?_); refine ze 7 32 #[.int .i64 0, .int .i64 0, .int .i64 0, .slice none 0 0] ?_; intro a5 hg v1 hbox hb; replace a0 := zA (Kd.N_below (Kd.N_elderB (zN a0.out) a5 (Nat.le_of_eq hg.symm)) hb); replace a4 := zr a4 hb; replace b6 := zr b6 hb; have a6 := zA (hbox); have t6 := zi HB hg; have t7 := zi HB hg; replace HB := zh HB hb; have i1 := zA (zL hg (zK a1.out)); have i2 := zA (zJ hg (zK a1.out)); replace a1 := zb a1 hb; clear hb hbox hg; have y7 := i2.out; have y8 := i1.out; obtain ⟨o1, o2, o3, o4, o5, o6, o7, o8⟩ := ze4 a6.out; obtain ⟨e9, f0, v2⟩ := Kd.R_slice b6.out; subst v2) | ((with_reducible refine gate_store (t := 32) (p := 7) rfl ?_); refine store_event (t := 32) (p := 7) (v := ?vo_w37) (w1 := ((((v1.setCell ⟨a5, 0, none⟩ (.int .i64 b3)).setCell ⟨a5, 1, none⟩ (.int .i64 b4)).setCell ⟨a5, 2, none⟩ (.int .i64 b5)).setCell ⟨a5, 3, none⟩ (.slice e9 a8.length f0))) ?hg ?ho ?hn ?hr ?_; (case ho => rfl); (case hg => rfl); (case hn => rfl); (case hr => first | (go_simp; done) | (go_simp; rfl)); intro g7 hw; replace a0 : Aside0 (Kd.N k75 75 g7 w.heap.size (fun k_ => (w.heap.size ≤ k_) ∧ some k_ ≠ (.slice e7 a7.length e8 : Value).ownBlock ∧ some k_ ≠ (.slice e9 a8.length f0 : Value).ownBlock ∧ k_ ≠ a2 ∧ k_ ≠ a5) b7 d0) := ⟨(by rw [hw]; exact (zNt (Kd.N_mono (zn4 a0.out (fun _ hk => hk.2)) (fun _ hk => ⟨hk.1.1.1.1, ⟨hk.1.1.1.2, ⟨hk.1.2, ⟨hk.1.1.2, hk.2⟩⟩⟩⟩))))⟩; replace a4 : Aside0 (Kd.R Kd.string 9 g7 w.heap.size (fun k_ => (w.heap.size ≤ k_) ∧ some k_ ≠ (.slice e9 a8.length f0 : Value).ownBlock) (.slice e7 a7.length e8) a7) := ⟨(by rw [hw]; exact (zR (Kd.R_mono (zr4 a4.out a6.out) (fun _ hk => ⟨hk.1.1, hk.2⟩))))⟩; replace b6 : Aside0 (Kd.R Kd.string 9 g7 w.heap.size (fun k_ => (w.heap.size ≤ k_) ∧ some k_ ≠ (.slice e7 a7.length e8 : Value).ownBlock) (.slice e9 a8.length f0) a8) := ⟨(by rw [hw]; exact (zR (Kd.R_mono (zr4 b6.out a6.out) (fun _ hk => ⟨hk.1.1, hk.2⟩))))⟩; replace a1 := zA (zh1 hw (zK a1.out)); replace a6 := zA (zh1 hw (zk4 a6.out)); replace HB := zA (zh2 hw (zW HB.out)); clear hw; obtain ⟨o9, p0, p1, p4, p5, p6, p7, p8⟩ := ze4 a1.out; obtain ⟨p9, q0, q1, q2, q4, q5, q6, q7⟩ := ze4 a6.out) | ((with_reducible refine gate_dst (N := 40) rfl ?_); refine Kd.N_lit k75 _ 75 ?hg (N' := 40) ?hd (xs := ([(⟨4, (⟨b0, b1, b2, a7⟩ : S32)⟩ : S75), (⟨2, (⟨b3, b4, b5, a8⟩ : S32)⟩ : S75)] : List (S75))) (inner := [.int .i64 4, .int .i64 b0, .int .i64 b1, .int .i64 b2, .slice e7 a7.length e8, .int .i64 2, .int .i64 b3, .int .i64 b4, .int .i64 b5, .slice e9 a8.length f0]) (ok := (fun k_ => (w.heap.size ≤ k_) ∧ some k_ ≠ (b7 : Value).ownBlock ∧ k_ ≠ a2 ∧ k_ ≠ a5)) ?hr ?hp (fun _ hk => hk) ((show ∀ k_, g7.heap.size ≤ k_ → (fun k_ => (w.heap.size ≤ k_) ∧ some k_ ≠ (b7 : Value).ownBlock ∧ k_ ≠ a2 ∧ k_ ≠ a5) k_ from fun k_ hk => ⟨(Nat.le_trans (below_size (zW HB.out)) hk), Kd.fresh' (Kd.N_lt (zN a0.out)) k_ hk, Kd.freshB (g := a2) (o := .cells #[.int .i64 b0, .int .i64 b1, .int .i64 b2, .slice e7 a7.length e8] 32 (0, 0)) (zK a1.out) k_ hk, Kd.freshB (g := a5) (o := .cells #[.int .i64 b3, .int .i64 b4, .int .i64 b5, .slice e9 a8.length f0] 32 (0, 0)) (zK a6.out) k_ hk⟩) _ (Nat.le_refl _)) (Below.refl _ _) (Nat.le_refl _) (by simp) ?_; (case hd => rfl); (case hg => rfl); (case hr => first | (go_simp; done) | (go_simp; rfl)); (case hp => exact (Reps.c5 (show Kd.FK k75 _ _ (⟨4, (⟨b0, b1, b2, a7⟩ : S32)⟩ : S75) [.int .i64 4, .int .i64 b0, .int .i64 b1, .int .i64 b2, .slice e7 a7.length e8] from (k75_mkF _ _ (⟨4, (⟨b0, b1, b2, a7⟩ : S32)⟩ : S75) (Kd.R_reads' (Kd.R_mono (ok' := (fun k_ => (w.heap.size ≤ k_) ∧ some k_ ≠ (b7 : Value).ownBlock ∧ k_ ≠ a2 ∧ k_ ≠ a5)) (Kd.R_types (Kd.R_types (Kd.R_apart' (a4.out) (Kd.N_typed a0.out) (by decide)) a1.out (by decide)) a6.out (by decide)) (fun k_ hk => ⟨hk.1.1.1.1, ⟨hk.1.1.2, ⟨hk.1.2, hk.2⟩⟩⟩))).2.1 (Kd.R_F (Kd.R_mono (ok' := (fun k_ => (w.heap.size ≤ k_) ∧ some k_ ≠ (b7 : Value).ownBlock ∧ k_ ≠ a2 ∧ k_ ≠ a5)) (Kd.R_types (Kd.R_types (Kd.R_apart' (a4.out) (Kd.N_typed a0.out) (by decide)) a1.out (by decide)) a6.out (by decide)) (fun k_ hk => ⟨hk.1.1.1.1, ⟨hk.1.1.2, ⟨hk.1.2, hk.2⟩⟩⟩))))) (Reps.c5 (show Kd.FK k75 _ _ (⟨2, (⟨b3, b4, b5, a8⟩ : S32)⟩ : S75) [.int .i64 2, .int .i64 b3, .int .i64 b4, .int .i64 b5, .slice e9 a8.length f0] from (k75_mkF _ _ (⟨2, (⟨b3, b4, b5, a8⟩ : S32)⟩ : S75) (Kd.R_reads' (Kd.R_mono (ok' := (fun k_ => (w.heap.size ≤ k_) ∧ some k_ ≠ (b7 : Value).ownBlock ∧ k_ ≠ a2 ∧ k_ ≠ a5)) (Kd.R_types (Kd.R_types (Kd.R_apart' (b6.out) (Kd.N_typed a0.out) (by decide)) a1.out (by decide)) a6.out (by decide)) (fun k_ hk => ⟨hk.1.1.1.1, ⟨hk.1.1.2, ⟨hk.1.2, hk.2⟩⟩⟩))).2.1 (Kd.R_F (Kd.R_mono (ok' := (fun k_ => (w.heap.size ≤ k_) ∧ some k_ ≠ (b7 : Value).ownBlock ∧ k_ ≠ a2 ∧ k_ ≠ a5)) (Kd.R_types (Kd.R_types (Kd.R_apart' (b6.out) (Kd.N_typed a0.out) (by decide)) a1.out (by decide)) a6.out (by decide)) (fun k_ hk => ⟨hk.1.1.1.1, ⟨hk.1.1.2, ⟨hk.1.2, hk.2⟩⟩⟩))))) (Reps.none _ _)))); intro t9 y9 f6 hb hg_ hnew_; clear hg_ hnew_; (first | rw [← g5.out] at f6 | (simp only [Int.reduceToNat] at f6; rw [← g5.out] at f6)); replace a0 := zA (Kd.N_elder' (zN a0.out) (Kd.N_base f6) hb); have i3 := zA (Kd.N_lower f6 (below_size (zW HB.out))); replace a1 := zb a1 hb; replace a6 := zb a6 hb; replace HB := zh HB hb; clear a4 b6; clear hb f6))
      go_ret2
      exact ⟨_, zE, zNt (Kd.N_mono i3.out (fun _ hk => hk.1)), zW HB.out⟩
    ·have H' := Aside0.mk H
     clear H
     go_wp2
     go_meet
     case rel => exact ⟨_, (by first | exact H' | (subst_vars; exact H')), ⟨by have := h4.out; first | omega | exact Nat.le_refl _⟩, ⟨zN a0.out⟩, ⟨zB⟩⟩
   case rest =>
    clear h5
    try clear c1
    try clear c2
    try clear p2
    try clear c3
    try clear p3
    try clear q3
    try clear hx3
    try clear qi3
    try clear c5
    try clear e0
    try clear g2
    try clear c6
    try clear h2
    try clear h3
    try clear c7
    try clear c8
    try clear c9
    try clear g3
    try clear j3
    try clear g4
    try clear j5
    try clear j6
    try clear c12
    try clear c13
    try clear c20
    try clear c34
    try clear p35
    try clear q35
    try clear hx35
    try clear qi35
    try clear p36
    try clear q36
    try clear hx36
    try clear qi36
    try clear j9 k0 k1 k2 k4 k5 k6 k7
    try clear k8 k9 l1 l2 l3 l4 l5 l6
    try clear l7 l8 l9 m0 m1 m2 m3 m4
    try clear m5 m6 m7 m8 m9 n0 n1 n2
    try clear n3 n4 n5 n6 n7 n8 n9 o0
    try clear o1 o2 o3 o4 o5 o6 o7 o8
    try clear o9 p0 p1 p4 p5 p6 p7 p8
    try clear p9 q0 q1 q2 q4 q5 q6 q7
    try clear e2
    try clear c4
    try clear a3
    try clear p2
    try clear p3
    try clear f3
    try clear d1
    try clear d4
    try clear q3
    try clear f4
    try clear d2
    try clear d5
    obtain ⟨kq, HA, q8, a0, HB⟩ := hcut
    cases kq with
    | zero => exact absurd HA.out (by simp [spec_l4List.j1])
    | succ q9 =>
     have H := HA.out
     clear HA
     simp only [spec_l4List.j1] at H
     have H' := Aside0.mk H
     clear H
     go_wp2
     go_loopg [4, 9] q9 (fun kq v4 v9 w' => ∃ (f9 : List (S75)) (b8 : Int), v9 = .int .i64 b8 ∧ Aside0 (spec_l4List.l0 kq l0 f9 b8 = some (r1, r2)) ∧ Aside0 (kq ≤ q9) ∧ Aside0 (Kd.N k75 75 w' w.heap.size (fun k_ => (w.heap.size ≤ k_)) v4 f9) ∧ Aside0 (Below w.heap.size w w'))
     case atStart => exact ⟨(d0), (0), zS, H', ⟨Nat.le_refl _⟩, ⟨zN a0.out⟩, ⟨zB⟩⟩
     case round =>
      clear H'
      try clear c1
      try clear c2
      try clear p2
      try clear c3
      try clear p3
      try clear q3
      try clear hx3
      try clear qi3
      try clear c5
      try clear e0
      try clear g2
      try clear c6
      try clear h2
      try clear h3
      try clear c7
      try clear c8
      try clear c9
      try clear g3
      try clear j3
      try clear g4
      try clear j5
      try clear j6
      try clear c12
      try clear c13
      try clear c20
      try clear c34
      try clear p35
      try clear q35
      try clear hx35
      try clear qi35
      try clear p36
      try clear q36
      try clear hx36
      try clear qi36
      try clear j9 k0 k1 k2 k4 k5 k6 k7
      try clear k8 k9 l1 l2 l3 l4 l5 l6
      try clear l7 l8 l9 m0 m1 m2 m3 m4
      try clear m5 m6 m7 m8 m9 n0 n1 n2
      try clear n3 n4 n5 n6 n7 n8 n9 o0
      try clear o1 o2 o3 o4 o5 o6 o7 o8
      try clear o9 p0 p1 p4 p5 p6 p7 p8
      try clear p9 q0 q1 q2 q4 q5 q6 q7
      try clear e2
      try clear c4
      try clear a3
      try clear p2
      try clear p3
      try clear p35
      try clear f3
      try clear d1
      try clear p36
      try clear d4
      try clear q3
      try clear q35
      try clear f4
      try clear d2
      try clear q36
      try clear d5
      obtain ⟨f9, b8, rfl, HA, r0, a0, HB⟩ := hrel
      cases gk with
      | zero => exact absurd HA.out (by simp [spec_l4List.l0])
      | succ k3 =>
       have H := HA.out
       clear HA
       simp only [spec_l4List.l0] at H
       replace H := zI0 H
       rcases H with ⟨v3, H⟩ | ⟨v3, H⟩
       ·replace H := zD0 H
        obtain ⟨z0, H⟩ := H
        replace H := zj H
        obtain ⟨⟨g8, z1⟩, r3, H⟩ := H
        try dsimp only at H
        replace H := zB0 H
        rcases H with ⟨rfl, H⟩ | ⟨rfl, H⟩
        ·replace H := zC0 H
         obtain ⟨r4, H⟩ := H
         have v5 := Aside0.mk r4
         clear r4
         obtain ⟨r5, i4⟩ : ∃ y_ : List (S75), y_ = (f9 ++ g8) := ⟨_, rfl⟩
         replace H : (spec_l4List.l0 k3 l0 r5 (wrap64 (b8 + 1))) = some (r1, r2) := zY i4 H
         have v6 := Aside0.mk i4
         clear i4
         have H' := Aside0.mk H
         clear H
         have f1 : 0 ≤ (b8 : Int) := zD
         have f2 : b8 < (l0.length : Int) := zD
         obtain ⟨v7, i5, g0⟩ := Kd.at_string e1.out b8 f1 f2
         cases i5
         replace g0 := zx HB g0
         replace f1 := eq_true f1
         replace f2 := eq_true f2
         go_wp2_with (first | ((with_reducible refine zq 125 ?_); refine zg (some 56) Tryz.func125 #[.string (rdOf ByteArray.empty l0 b8)] ?_; (with_reducible refine (spec_l4Word.calls k3 (rdOf ByteArray.empty l0 b8) g8 true _ r3.out).mono ?_); rintro e z2 ⟨v8, rfl, a9, hb⟩; refine ⟨_, rfl, ?_⟩; have g1 := zA (Kd.N_lower (Kd.N_mono (ok' := fun k_ => (w.heap.size ≤ k_) ∧ some k_ ≠ (u4 : Value).ownBlock) a9 (fun k_ hk_ => ⟨(Nat.le_trans (below_size (zB)) hk_), (Kd.fresh' (Kd.N_lt (zN a0.out)) k_ hk_)⟩)) (below_size (zB))); replace a0 := zA (Kd.N_elder' (zN a0.out) (Kd.N_base a9) hb); replace HB := zA (below_step (zB) hb); (try clear hb a9); obtain ⟨z3, z4, x0⟩ := Kd.N_slice g1.out; subst x0) | ((with_reducible refine gate_builtin (b := .append) (xs := #[.tmp 62, .tmp 63]) rfl ?_); at_builtin; refine Kd.N_append_rows k75 (w0 := w) w.heap.size rfl (.tmp 62) (.tmp 63) 108 75 (.agg #[(.int .i64 0), (.int .i64 0), (.int .i64 0), (.int .i64 0), (.slice none 0 0)]) 56 rfl Tryz.underlying108 info75 rfl (by decide) (by omega) u4 f9 g8 _ _ _ (fun k_ => (w.heap.size ≤ k_)) (fun k_ => ((fun k_ => (w.heap.size ≤ k_))) k_ ∧ some k_ ≠ (u4 : Value).ownBlock) rfl rfl ?aO ?aR (fun _ hk => hk) ?aF ?aB ?aS ?aL ?_; (case aR => exact (by skip; exact Kd.N_F (Kd.N_mono (ok' := (fun k_ => ((fun k_ => (w.heap.size ≤ k_))) k_ ∧ some k_ ≠ (u4 : Value).ownBlock)) (g1.out) (fun k_ hk => ⟨hk.1, hk.2⟩)))); (case aB => exact (zB)); (case aF => exact (fun k_ hk => (Nat.le_trans (below_size (zB)) hk))); (case aO => exact (zNt (Kd.N_mono a0.out (fun _ hk => hk.1)))); (case aS => exact (below_size (zB))); (case aL => have := v5.out; omega); intro z5 z6 ho hb hg hat; rw [← v6.out] at ho; replace g1 := zA (Kd.N_afterv (ok := (fun k_ => (w.heap.size ≤ k_))) (zN g1.out) hg hat); replace HB := zA (hb); have x1 := zA (ho); clear a0; clear ho hb hg hat))
         go_roundg k3
         case measure => have := h4.out; have := q8.out; have := r0.out; omega
         case rel => exact ⟨(r5), (wrap64 (b8 + 1)), zS, H', ⟨by have := h4.out; have := q8.out; have := r0.out; omega⟩, ⟨zN x1.out⟩, ⟨zB⟩⟩
        ·simp only [Option.some.injEq, Prod.mk.injEq] at H
         obtain ⟨rfl, rfl⟩ := H
         have f1 : 0 ≤ (b8 : Int) := zD
         have f2 : b8 < (l0.length : Int) := zD
         obtain ⟨v7, i5, g0⟩ := Kd.at_string e1.out b8 f1 f2
         cases i5
         replace g0 := zx HB g0
         replace f1 := eq_true f1
         replace f2 := eq_true f2
         go_wp2_with (first | ((with_reducible refine zq 125 ?_); refine zg (some 56) Tryz.func125 #[.string (rdOf ByteArray.empty l0 b8)] ?_; (with_reducible refine (spec_l4Word.calls k3 (rdOf ByteArray.empty l0 b8) g8 false _ r3.out).mono ?_); rintro e z7 ⟨v8, rfl, a9, hb⟩; refine ⟨_, rfl, ?_⟩; have g1 := zA (Kd.N_lower (Kd.N_mono (ok' := fun k_ => (w.heap.size ≤ k_) ∧ some k_ ≠ (u4 : Value).ownBlock) a9 (fun k_ hk_ => ⟨(Nat.le_trans (below_size (zB)) hk_), (Kd.fresh' (Kd.N_lt (zN a0.out)) k_ hk_)⟩)) (below_size (zB))); replace a0 := zA (Kd.N_elder' (zN a0.out) (Kd.N_base a9) hb); replace HB := zA (below_step (zB) hb); (try clear hb a9)))
         go_ret2
         exact ⟨_, zE, zNt (Kd.N_mono a0.out (fun _ hk => hk.1)), zB⟩
       ·simp only [Option.some.injEq, Prod.mk.injEq] at H
        obtain ⟨rfl, rfl⟩ := H
        obtain ⟨z8, z9, x2⟩ := Kd.N_slice a0.out
        subst x2
        go_wp2
        go_ret2
        exact ⟨_, zE, zN a0.out, zB⟩
/-! ### spec_l4Trim: function 79 -/
mutual
def spec_l4Trim.j1 : Nat → ByteArray → Option (ByteArray)
 | 0, _ => none
 | k + 1, x0 => spec_l4Trim.l1 k x0
def spec_l4Trim.l1 : Nat → ByteArray → Option (ByteArray)
 | 0, _ => none
 | k + 1, x0 => if (x0.size : Int) > 0 then (if 0 ≤ (wrap64 ((x0.size : Int) - 1)) then (if (wrap64 ((x0.size : Int) - 1)) < (x0.size : Int) then (if (bt x0 (wrap64 ((x0.size : Int) - 1))) = 32 then (if (wrap64 ((x0.size : Int) - 1)) ≤ (x0.size : Int) then (spec_l4Trim.l1 k (x0.extract 0 ((wrap64 ((x0.size : Int) - 1)) : Int).toNat)) else (none)) else (some x0)) else (none)) else (none)) else (some x0)
def spec_l4Trim.l0 : Nat → ByteArray → Option (ByteArray)
 | 0, _ => none
 | k + 1, x0 => if (x0.size : Int) > 0 then (if 0 < (x0.size : Int) then (if (bt x0 0) = 32 then (if 1 ≤ (x0.size : Int) then (spec_l4Trim.l0 k (x0.extract 1 x0.size)) else (none)) else (spec_l4Trim.j1 k x0)) else (none)) else (spec_l4Trim.j1 k x0)
end
def spec_l4Trim.f (k : Nat) (a0 : ByteArray) : Option (ByteArray) := spec_l4Trim.l0 k a0
theorem spec_l4Trim.calls (k : Nat) (a0 r : ByteArray) (w : World) (h : spec_l4Trim.f k a0 = some r) :
  Calls Tryz.prog 79 #[.string a0] w fun e w' => e = .returned (.string r) ∧ Drawn0 w w' := by
 unfold spec_l4Trim.f at h
 have H := h
 clear h
 have b0 := Aside0.mk H
 clear H
 go_enter Tryz.func79, Tryz.ntmps79
 go_upto_block 0 with (fail)
 go_cut [0] (fun v0 wc => ∃ (kq : Nat) (a1 : ByteArray), v0 = .string a1 ∧ Aside0 (spec_l4Trim.j1 kq a1 = some r) ∧ Aside0 (kq ≤ k) ∧ Drawn0 w wc)
 case first =>
  have H := b0.out
  clear b0
  have H' := Aside0.mk H
  clear H
  go_wp2
  go_loopg [0] k (fun kq v0 w' => ∃ (a1 : ByteArray), v0 = .string a1 ∧ Aside0 (spec_l4Trim.l0 kq a1 = some r) ∧ Aside0 (kq ≤ k) ∧ Drawn0 w w')
  case atStart => exact ⟨(a0), zS, H', ⟨Nat.le_refl _⟩, by repeat (first | exact Drawn0.refl _ | apply Drawn0.step)⟩
  case round =>
   clear H'
   try clear p2
   obtain ⟨a1, rfl, HA, a9, ⟨m1, rfl⟩⟩ := hrel
   cases gk with
   | zero => exact absurd HA.out (by simp [spec_l4Trim.l0])
   | succ k1 =>
    have H := HA.out
    clear HA
    simp only [spec_l4Trim.l0] at H
    replace H := zI1 H
    rcases H with ⟨c3, H⟩ | ⟨c3, H⟩
    ·have a4 : decide (0 < (a1.size : Int)) = true := decide_eq_true c3
     have b1 : decide (0 < a1.size) = true := decide_eq_true (by omega)
     clear c3
     (first | rw [a4] | (simp only [i64_w, i32_w]; rw [a4]) | skip)
     replace H := zC0 H
     obtain ⟨c4, H⟩ := H
     have b7 := decide_eq_true c4
     have b8 : decide (0 < a1.size) = true := decide_eq_true (by omega)
     clear c4
     replace H := zI1 H
     rcases H with ⟨c6, H⟩ | ⟨c6, H⟩
     ·have b2 := beq_iff_eq.mpr c6
      have b3 := bne_eq_false_iff_eq.mpr c6
      clear c6
      replace H := zC0 H
      obtain ⟨c7, H⟩ := H
      have b9 := eq_true c7
      have c0 := decide_eq_true c7
      clear c7
      have H' := Aside0.mk H
      clear H
      have p5 : 0 ≤ (0 : Int) := (by omega)
      have q5 : 0 < a1.size := (by have : (0 : Int) < (a1.size : Int) := zD; omega)
      have b4 : ∀ h : 0 < a1.size, ((a1[0]'h).toNat : Int) = bt a1 0 := bt_at a1 0
      clear p5
      have b5 : (0 < (a1.size : Int)) = True := eq_true (zD)
      replace q5 := eq_true q5
      go_wp2
      go_roundg k1
      case measure => have := a9.out; omega
      case rel => exact ⟨(a1.extract 1 a1.size), zS, H', ⟨by have := a9.out; omega⟩, by repeat (first | exact Drawn0.refl _ | apply Drawn0.step)⟩
     ·have b2 := beq_eq_false_iff_ne.mpr c6
      have b3 := bne_iff_ne.mpr c6
      have H' := Aside0.mk H
      clear H
      have p5 : 0 ≤ (0 : Int) := (by omega)
      have q5 : 0 < a1.size := (by have : (0 : Int) < (a1.size : Int) := zD; omega)
      have b4 : ∀ h : 0 < a1.size, ((a1[0]'h).toNat : Int) = bt a1 0 := bt_at a1 0
      clear p5
      have b5 : (0 < (a1.size : Int)) = True := eq_true (zD)
      replace q5 := eq_true q5
      go_wp2
      go_meet
      case rel => exact ⟨_, (a1), zS, (by first | exact H' | (subst_vars; exact H')), ⟨by have := a9.out; first | omega | exact Nat.le_refl _⟩, by repeat (first | exact Drawn0.refl _ | apply Drawn0.step)⟩
    ·have a4 : decide (0 < (a1.size : Int)) = false := decide_eq_false c3
     have b1 : decide (0 < a1.size) = false := decide_eq_false (by omega)
     clear c3
     (first | rw [a4] | (simp only [i64_w, i32_w]; rw [a4]) | skip)
     have H' := Aside0.mk H
     clear H
     go_wp2
     go_meet
     case rel => exact ⟨_, (a1), zS, (by first | exact H' | (subst_vars; exact H')), ⟨by have := a9.out; first | omega | exact Nat.le_refl _⟩, by repeat (first | exact Drawn0.refl _ | apply Drawn0.step)⟩
 case rest =>
  clear b0
  try clear p2
  try clear c3
  try clear a4
  try clear b1
  try clear c4
  try clear b7
  try clear b8
  try clear p5
  try clear q5
  try clear b4
  try clear b5
  try clear c6
  try clear b2
  try clear b3
  try clear c7
  try clear b9
  try clear c0
  try clear p2
  try clear p5
  try clear q5
  obtain ⟨kq, a1, rfl, HA, c2, ⟨d5, rfl⟩⟩ := hcut
  cases kq with
  | zero => exact absurd HA.out (by simp [spec_l4Trim.j1])
  | succ c5 =>
   have H := HA.out
   clear HA
   simp only [spec_l4Trim.j1] at H
   have H' := Aside0.mk H
   clear H
   go_wp2
   go_loopg [0] c5 (fun kq v0 w' => ∃ (a2 : ByteArray), v0 = .string a2 ∧ Aside0 (spec_l4Trim.l1 kq a2 = some r) ∧ Aside0 (kq ≤ c5) ∧ Drawn0 w w')
   case atStart => exact ⟨(a1), zS, H', ⟨Nat.le_refl _⟩, by repeat (first | exact Drawn0.refl _ | apply Drawn0.step)⟩
   case round =>
    clear H'
    try clear c1
    try clear p2
    try clear c3
    try clear a4
    try clear b1
    try clear c4
    try clear b7
    try clear b8
    try clear p5
    try clear q5
    try clear b4
    try clear b5
    try clear c6
    try clear b2
    try clear b3
    try clear c7
    try clear b9
    try clear c0
    try clear p2
    try clear p5
    try clear q5
    obtain ⟨a2, rfl, HA, c9, ⟨m2, rfl⟩⟩ := hrel
    cases gk with
    | zero => exact absurd HA.out (by simp [spec_l4Trim.l1])
    | succ k2 =>
     have H := HA.out
     clear HA
     simp only [spec_l4Trim.l1] at H
     replace H := zI1 H
     rcases H with ⟨c8, H⟩ | ⟨c8, H⟩
     ·have d0 : decide (0 < (a2.size : Int)) = true := decide_eq_true c8
      have d1 : decide (0 < a2.size) = true := decide_eq_true (by omega)
      clear c8
      obtain ⟨a3, a6⟩ : ∃ j_ : Int, (wrap64 ((a2.size : Int) - 1)) = j_ := ⟨_, rfl⟩
      replace H : (if 0 ≤ (a3) then (if (a3) < (a2.size : Int) then (if (bt a2 (a3)) = 32 then (if (a3) ≤ (a2.size : Int) then (spec_l4Trim.l1 k2 (a2.extract 0 ((a3) : Int).toNat)) else (none)) else (some a2)) else (none)) else (none)) = some r := by first | (rw [a6] at H; exact H) | (simp only [a6] at H ⊢; exact H)
      have hji9w : (IntKind.i64.wrap ((a2.size : Int) - 1)) = a3 := (i64_w _).trans a6
      replace H := zD0 H
      obtain ⟨d6, H⟩ := H
      replace H := zD0 H
      obtain ⟨d7, H⟩ := H
      replace H := zI1 H
      rcases H with ⟨a5, H⟩ | ⟨a5, H⟩
      ·have d2 := beq_iff_eq.mpr a5
       have d3 := bne_eq_false_iff_eq.mpr a5
       clear a5
       have d8 := eq_true (zD : 0 ≤ (a3))
       replace H := zC0 H
       obtain ⟨b6, H⟩ := H
       have d9 := eq_true b6
       have e0 := decide_eq_true b6
       clear b6
       have H' := Aside0.mk H
       clear H
       have a7 : 0 ≤ ((a3) : Int) := zD
       have a8 : (a3) < (a2.size : Int) := zD
       have d4 := bt_at a2 (a3)
       replace a7 := eq_true a7
       replace a8 := eq_true a8
       go_wp2
       go_roundg k2
       case measure => have := c2.out; have := c9.out; omega
       case rel => exact ⟨(a2.extract 0 ((a3) : Int).toNat), (by first | rfl | (simp; done) | (simp only [← a6] <;> (first | rfl | simp)) | (simp [*]; done)), H', ⟨by have := c2.out; have := c9.out; omega⟩, by repeat (first | exact Drawn0.refl _ | apply Drawn0.step)⟩
      ·have d2 := beq_eq_false_iff_ne.mpr a5
       have d3 := bne_iff_ne.mpr a5
       obtain rfl := Option.some.inj H
       have a7 : 0 ≤ ((a3) : Int) := zD
       have a8 : (a3) < (a2.size : Int) := zD
       have d4 := bt_at a2 (a3)
       replace a7 := eq_true a7
       replace a8 := eq_true a8
       go_wp2
       go_ret
       exact ⟨by first | rfl | (simp; done) | (simp only [← a6] <;> (first | rfl | simp)) | (simp [*]; done), by repeat (first | exact Drawn0.refl _ | apply Drawn0.step)⟩
     ·have d0 : decide (0 < (a2.size : Int)) = false := decide_eq_false c8
      have d1 : decide (0 < a2.size) = false := decide_eq_false (by omega)
      clear c8
      obtain rfl := Option.some.inj H
      go_wp2
      go_ret
      exact ⟨by first | rfl | (simp; done) | (simp [*]; done) | (simp; rw [Bool.eq_iff_iff]; simp; done), by repeat (first | exact Drawn0.refl _ | apply Drawn0.step)⟩
/-! ### spec_l4Good: function 80 -/
def spec_l4Good.l0 : Nat → List (S75) → Int → Option (Bool)
 | 0, _, _ => none
 | k + 1, x0, x3 => if x3 < (x0.length : Int) then (if 0 ≤ x3 then ((spec_VerOk.f k ((rd_T75 x0 x3).f1.f0) ((rd_T75 x0 x3).f1.f1) ((rd_T75 x0 x3).f1.f2) ((rd_T75 x0 x3).f1.f3)).bind fun a0 => (if a0 = true then (spec_l4Good.l0 k x0 (wrap64 (x3 + 1))) else (some false))) else (none)) else (some true)
def spec_l4Good.f (k : Nat) (l0 : List (S75)) : Option (Bool) := spec_l4Good.l0 k l0 0
theorem spec_l4Good.calls (k : Nat) (A0 : Option Addr) (c0 : Nat) (l0 : List (S75)) (r : Bool) (w : World) (b5 : Kd.C k75 w A0 l0.length l0) (b6 : l0.length ≤ c0) (h : spec_l4Good.f k l0 = some r) :
  Calls Tryz.prog 80 #[.slice A0 l0.length c0] w fun e w' => e = .returned (.bool r) ∧ Below w.heap.size w w' := by
 have c2 := Tryz.underlying32
 have b7 := Aside0.mk b5
 have c3 := Aside0.mk b6
 clear b5 b6
 have HB := zA (Below.refl w.heap.size w)
 unfold spec_l4Good.f at h
 have H := h
 clear h
 have H' := Aside0.mk H
 clear H
 go_enter Tryz.func80, Tryz.ntmps80
 go_wp2
 go_loopg [3] k (fun kq v3 w' => ∃ (a0 : Int), v3 = .int .i64 a0 ∧ Aside0 (spec_l4Good.l0 kq l0 a0 = some r) ∧ Aside0 (kq ≤ k) ∧ Aside0 (Below w.heap.size w w'))
 case atStart => exact ⟨(0), zS, H', ⟨Nat.le_refl _⟩, ⟨zB⟩⟩
 case round =>
  clear H'
  obtain ⟨a0, rfl, HA, b8, HB⟩ := hrel
  cases gk with
  | zero => exact absurd HA.out (by simp [spec_l4Good.l0])
  | succ k1 =>
   have H := HA.out
   clear HA
   simp only [spec_l4Good.l0] at H
   replace H := zI0 H
   rcases H with ⟨b9, H⟩ | ⟨b9, H⟩
   ·replace H := zD0 H
    obtain ⟨c4, H⟩ := H
    replace H := zj H
    obtain ⟨c5, A4, H⟩ := H
    try dsimp only at H
    replace H := zB0 H
    rcases H with ⟨rfl, H⟩ | ⟨rfl, H⟩
    ·have H' := Aside0.mk H
     clear H
     have a1 : 0 ≤ (a0 : Int) := zD
     have a2 : a0 < (l0.length : Int) := zD
     obtain ⟨c1, b0, b1, b2, a3, a4, a5, a6, a7, a8, a9⟩ := at_T75 b7.out a0 a1 a2
     cases b2
     replace a3 := zx HB a3
     replace a4 := zx HB a4
     replace a5 := zx HB a5
     replace a6 := zx HB a6
     replace a7 := zx HB a7
     have b3 := Aside0.mk a9
     have b4 := Aside0.mk a8
     clear a9 a8
     replace a1 := eq_true a1
     replace a2 := eq_true a2
     go_wp2_with (first | ((with_reducible refine zq 68 ?_); refine zg (some 15) Tryz.func68 #[.agg #[.int .i64 ((rd_T75 l0 a0).f1.f0), .int .i64 ((rd_T75 l0 a0).f1.f1), .int .i64 ((rd_T75 l0 a0).f1.f2), .slice b0 ((rd_T75 l0 a0).f1.f3).length b1]] ?_; (with_reducible refine (spec_VerOk.calls k1 ((rd_T75 l0 a0).f1.f0) ((rd_T75 l0 a0).f1.f1) ((rd_T75 l0 a0).f1.f2) _ _ ((rd_T75 l0 a0).f1.f3) true _ ?side1 ?side2 A4.out).mono ?_); (case side1 => exact zC (Kd.C_below b3.out HB.out)); (case side2 => exact b4.out); rintro e w6 ⟨rfl, hb⟩; refine ⟨_, rfl, ?_⟩; replace HB := zA (below_step (zB) hb); (try clear hb)))
     go_roundg k1
     case measure => have := b8.out; omega
     case rel => exact ⟨(wrap64 (a0 + 1)), zS, H', ⟨by have := b8.out; omega⟩, ⟨zB⟩⟩
    ·obtain rfl := Option.some.inj H
     have a1 : 0 ≤ (a0 : Int) := zD
     have a2 : a0 < (l0.length : Int) := zD
     obtain ⟨c1, b0, b1, b2, a3, a4, a5, a6, a7, a8, a9⟩ := at_T75 b7.out a0 a1 a2
     cases b2
     replace a3 := zx HB a3
     replace a4 := zx HB a4
     replace a5 := zx HB a5
     replace a6 := zx HB a6
     replace a7 := zx HB a7
     have b3 := Aside0.mk a9
     have b4 := Aside0.mk a8
     clear a9 a8
     replace a1 := eq_true a1
     replace a2 := eq_true a2
     go_wp2_with (first | ((with_reducible refine zq 68 ?_); refine zg (some 15) Tryz.func68 #[.agg #[.int .i64 ((rd_T75 l0 a0).f1.f0), .int .i64 ((rd_T75 l0 a0).f1.f1), .int .i64 ((rd_T75 l0 a0).f1.f2), .slice b0 ((rd_T75 l0 a0).f1.f3).length b1]] ?_; (with_reducible refine (spec_VerOk.calls k1 ((rd_T75 l0 a0).f1.f0) ((rd_T75 l0 a0).f1.f1) ((rd_T75 l0 a0).f1.f2) _ _ ((rd_T75 l0 a0).f1.f3) false _ ?side1 ?side2 A4.out).mono ?_); (case side1 => exact zC (Kd.C_below b3.out HB.out)); (case side2 => exact b4.out); rintro e w7 ⟨rfl, hb⟩; refine ⟨_, rfl, ?_⟩; replace HB := zA (below_step (zB) hb); (try clear hb)))
     go_ret
     exact ⟨zE, zB⟩
   ·obtain rfl := Option.some.inj H
    go_wp2
    go_ret
    exact ⟨zE, zB⟩
end Go.Proofs.YtpcdhoeoefoeoaaGreatDoor.PGC
