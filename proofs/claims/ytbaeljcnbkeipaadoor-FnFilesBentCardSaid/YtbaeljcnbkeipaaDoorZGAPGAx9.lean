/- The walks of the functions that these laws reach, and what each comes to: printed by this session's program. -/
import Derived.Test.YtbaeljcnbkeipaaDoorZGAPGAx0
import Derived.Test.YtbaeljcnbkeipaaDoorZGAPGAx7
import Derived.Test.YtbaeljcnbkeipaaDoorZGAPGAx2
import Derived.Test.YtbaeljcnbkeipaaDoorZGAPGAx5
import Derived.Test.YtbaeljcnbkeipaaDoorZGASays
namespace Go.Proofs.YtbaeljcnbkeipaaDoor.PGA
open Go.RowKit YtbaeljcnbkeipaaDoorW.PrintWords YtbaeljcnbkeipaaDoorW.PrintLast YtbaeljcnbkeipaaDoorW.PrintMore
attribute [local go_sem high] Mine.str_gtr Mine.str_leq Mine.str_geq
attribute [local go_sem] max2_int min2_int max_two min_two max_three min_three max_four min_four   -- for this text's walks alone
set_option linter.unusedVariables false
set_option maxHeartbeats 8000000
set_option maxRecDepth 100000
set_option linter.unusedSimpArgs false
attribute [local go_sem high] eqA31
/-! ### spec_DrawDiffFiles: function 26 -/
def spec_DrawDiffFiles.f (k : Nat) (l0 : List Int) : Option ((List (S31)) × (List (S31))) := (spec_l1New.f k l0).bind fun a2 => ((spec_l5Any.f k a2.1 a2.2.1 a2.2.2).bind fun a0 => ((spec_l5Draw.f k a2.1 a0.2.1 a0.2.2).bind fun a3 => ((spec_l1Once.f k a2.1 a3.2.1 a3.2.2 3).bind fun a5 => (if a5.1 = true then ((some (([] : List (S31)) : List (S31))).bind fun a4 => (if a4.length + a0.1.length < 4398046511104 then ((some (a4 ++ a0.1 : List (S31))).bind fun a1 => (if (a1.length : Int) > 0 then (if 0 < (a1.length : Int) then (if ((rd_T31 a1 0).f1).size + 1 ≤ 9223372036854775807 then (some (a0.1, (a1.set (0 : Int).toNat (⟨(rd_T31 a1 0).f0, ((rd_T31 a1 0).f1) ++ (⟨#[33]⟩ : ByteArray)⟩ : S31)))) else (none)) else (none)) else (some (a0.1, a1)))) else (none))) else (some (a0.1, a3.1))))))
theorem spec_DrawDiffFiles.calls (k : Nat) (A0 : Option Addr) (c0 : Nat) (l0 : List Int) (r1 : List (S31)) (r2 : List (S31)) (w : World) (f8 : Kd.C (Kd.int .u8) w A0 l0.length l0) (f9 : l0.length ≤ c0) (h : spec_DrawDiffFiles.f k l0 = some (r1, r2)) :
  Calls Tryd.prog 26 #[.slice A0 l0.length c0] w fun e w' => ∃ d3 d4 : Value, e = .returned (.tuple #[d3, d4]) ∧ Kd.R k31 31 w' w.heap.size (fun k_ => some k_ ≠ (d4 : Value).ownBlock) d3 r1 ∧ Kd.R k31 31 w' w.heap.size (fun k_ => some k_ ≠ (d3 : Value).ownBlock) d4 r2 ∧ Below w.heap.size w w' := by
 have d5 := zA f8
 have d6 := zA f9
 clear f8 f9
 have HB := zA (Below.refl w.heap.size w)
 unfold spec_DrawDiffFiles.f at h
 have H := h
 clear h
 replace H := Option.bind_eq_some_iff.mp H
 obtain ⟨⟨a5, b9, c1⟩, g0, H⟩ := H
 try dsimp only at H
 have A2 := zA g0
 clear g0
 replace H := Option.bind_eq_some_iff.mp H
 obtain ⟨⟨a6, b2, b3⟩, g1, H⟩ := H
 try dsimp only at H
 have A3 := zA g1
 clear g1
 replace H := Option.bind_eq_some_iff.mp H
 obtain ⟨⟨d7, a9, b0⟩, g2, H⟩ := H
 try dsimp only at H
 have A4 := zA g2
 clear g2
 replace H := Option.bind_eq_some_iff.mp H
 obtain ⟨⟨j4, d8, d9⟩, g3, H⟩ := H
 try dsimp only at H
 have A5 := zA g3
 clear g3
 replace H := zB0 H
 rcases H with ⟨rfl, H⟩ | ⟨rfl, H⟩
 ·obtain ⟨c3, e0⟩ : ∃ y_ : List (S31), y_ = (([] : List (S31))) := ⟨_, rfl⟩; replace H : (if c3.length + a6.length < 4398046511104 then ((some (c3 ++ a6 : List (S31))).bind fun a1 => (if (a1.length : Int) > 0 then (if 0 < (a1.length : Int) then (if ((rd_T31 a1 0).f1).size + 1 ≤ 9223372036854775807 then (some (a6, (a1.set (0 : Int).toNat (⟨(rd_T31 a1 0).f0, ((rd_T31 a1 0).f1) ++ (⟨#[33]⟩ : ByteArray)⟩ : S31)))) else (none)) else (none)) else (some (a6, a1)))) else (none)) = some (r1, r2) := zY e0 H; have d0 := zA e0; clear e0; replace H := zC0 H; obtain ⟨c7, H⟩ := H; have g4 := zA c7; clear c7; obtain ⟨a1, e1⟩ : ∃ y_ : List (S31), y_ = (c3 ++ a6) := ⟨_, rfl⟩; replace H : (if (a1.length : Int) > 0 then (if 0 < (a1.length : Int) then (if ((rd_T31 a1 0).f1).size + 1 ≤ 9223372036854775807 then (some (a6, (a1.set (0 : Int).toNat (⟨(rd_T31 a1 0).f0, ((rd_T31 a1 0).f1) ++ (⟨#[33]⟩ : ByteArray)⟩ : S31)))) else (none)) else (none)) else (some (a6, a1))) = some (r1, r2) := zY e1 H; have g5 := zA e1; clear e1; replace H := zI1 H
  rcases H with ⟨c8, H⟩ | ⟨c8, H⟩
  ·have i2 : decide (0 < (a1.length : Int)) = true := decide_eq_true c8; have i3 : decide (0 < a1.length) = true := decide_eq_true (by omega); clear c8; replace H := zC0 H; obtain ⟨c9, H⟩ := H; have j5 := decide_eq_true c9; have j6 : decide (0 < a1.length) = true := decide_eq_true (by omega); clear c9; replace H := zC0 H; obtain ⟨e2, H⟩ := H; have j7 := eq_true e2; have j8 := decide_eq_true e2
   try have j9 : (9223372036854775807 < ((rd_T31 a1 0).f1).size + 1) = False := eq_false (Nat.not_lt.2 e2)
   obtain ⟨g6, e3⟩ : ∃ y_ : List (S31), y_ = (a1.set (0 : Int).toNat (⟨(rd_T31 a1 0).f0, ((rd_T31 a1 0).f1) ++ (⟨#[33]⟩ : ByteArray)⟩ : S31)) := ⟨_, rfl⟩; replace H : (some (a6, g6)) = some (r1, r2) := zY e3 H; have i4 := zA e3; clear e3; simp only [zU] at H; obtain ⟨rfl, rfl⟩ := H
   go_enter Tryd.func26, Tryd.ntmps26
   go_wp2_with (first | ((with_reducible refine zq 64 ?_); refine zg (some 8) Tryd.func64 #[.slice A0 l0.length c0] ?_; (with_reducible refine (spec_l1New.calls k _ _ l0 a5 b9 c1 w _ ?s1 ?s2 ?s3 A2.out).mono ?_); (case s1 => repeat (first | (with_reducible first | exact HB.out | apply below_alloc | apply pw_below_drewN | apply below_drew1) | exact HB.out)); (case s2 => exact d5.out); (case s3 => exact d6.out); rintro e k0 ⟨a3, rfl, hi, hb, c4⟩; refine ⟨_, rfl, ?_⟩; replace HB := zA (hb); have a0 := zA (hi); (try clear hb c4 hi)) | ((with_reducible refine zq 67 ?_); refine zg (some 10) Tryd.func67 #[.pointer (some ⟨a3, 0, none⟩)] ?_; (with_reducible refine (spec_l5Any.calls k a3 a5 b9 c1 a6 b2 b3 w _ ?s1 ?s2 A3.out).mono ?_); (case s1 => repeat (first | (with_reducible first | exact a0.out | apply IsS113.alloc | apply IsS113.drewN | apply IsS113.drew | apply IsS113.set_1 | apply IsS113.set_2) | exact a0.out)); (case s2 => repeat (first | (with_reducible first | exact HB.out | apply below_alloc | apply pw_below_drewN | apply below_drew1 | refine below_set ?_ (IsS113.ge a0.out)) | exact HB.out)); rintro e k1 ⟨g7, rfl, a7, hi, hb, hk⟩; refine ⟨_, rfl, ?_⟩; have a2 := zA (Kd.R_lower a7 (below_size (zX HB.out (IsS113.ge a0.out)))); replace HB := zA (hb); replace a0 := zA (hi); (try clear hb hk hi a7)) | ((with_reducible refine zq 71 ?_); refine zg (some 12) Tryd.func71 #[.pointer (some ⟨a3, 0, none⟩)] ?_; (with_reducible refine (spec_l5Draw.calls k a3 a5 b2 b3 d7 a9 b0 w _ ?s1 ?s2 A4.out).mono ?_); (case s1 => repeat (first | (with_reducible first | exact a0.out | apply IsS113.alloc | apply IsS113.drewN | apply IsS113.drew | apply IsS113.set_1 | apply IsS113.set_2) | exact a0.out)); (case s2 => repeat (first | (with_reducible first | exact HB.out | apply below_alloc | apply pw_below_drewN | apply below_drew1 | refine below_set ?_ (IsS113.ge a0.out)) | exact HB.out)); rintro e k2 ⟨b4, rfl, a7, hi, hb, hk⟩; refine ⟨_, rfl, ?_⟩; have a4 := zA (Kd.R_lower (Kd.R_new' a7 (Kd.R_lt (zR a2.out))) (below_size (zX HB.out (IsS113.ge a0.out)))); replace a2 := zA (Kd.R_mono (Kd.R_told (Kd.R_oldK (IsS113.apart (show IsS113 w _ a3 a5 b2 b3 from by repeat (first | (with_reducible first | exact a0.out | apply IsS113.alloc | apply IsS113.drewN | apply IsS113.drew | apply IsS113.set_1 | apply IsS113.set_2) | exact a0.out)) (zR a2.out) (by decide)) hk) (Kd.R_base a7)) (fun _ h_ => h_.1)); replace HB := zA (hb); replace a0 := zA (hi); (try clear hb hk hi a7)) | ((with_reducible refine zq 72 ?_); refine zg (some 14) Tryd.func72 #[.pointer (some ⟨a3, 0, none⟩), .int .i64 3] ?_; (with_reducible refine (spec_l1Once.calls k a3 a5 a9 b0 3 true d8 d9 w _ ?s1 ?s2 A5.out).mono ?_); (case s1 => repeat (first | (with_reducible first | exact a0.out | apply IsS113.alloc | apply IsS113.drewN | apply IsS113.drew | apply IsS113.set_1 | apply IsS113.set_2) | exact a0.out)); (case s2 => repeat (first | (with_reducible first | exact HB.out | apply below_alloc | apply pw_below_drewN | apply below_drew1 | refine below_set ?_ (IsS113.ge a0.out)) | exact HB.out)); rintro e k3 ⟨rfl, hi, hb, hk⟩; refine ⟨_, rfl, ?_⟩; replace a2 := zA (Kd.R_mono (Kd.R_keep (IsS113.apart (show IsS113 w _ a3 a5 a9 b0 from by repeat (first | (with_reducible first | exact a0.out | apply IsS113.alloc | apply IsS113.drewN | apply IsS113.drew | apply IsS113.set_1 | apply IsS113.set_2) | exact a0.out)) (zR a2.out) (by decide)) hk (fun _ h => h.2)) (fun _ h => h.1)); replace a4 := zA (Kd.R_mono (Kd.R_keep (IsS113.apart (show IsS113 w _ a3 a5 a9 b0 from by repeat (first | (with_reducible first | exact a0.out | apply IsS113.alloc | apply IsS113.drewN | apply IsS113.drew | apply IsS113.set_1 | apply IsS113.set_2) | exact a0.out)) (zR a4.out) (by decide)) hk (fun _ h => h.2)) (fun _ h => h.1)); replace HB := zA (hb); replace a0 := zA (hi); (try clear hb hk hi)) | ((with_reducible refine gate_dst (N := 15) rfl ?_); refine Kd.R_lit k31 _ 31 ?hg (N := 15) ?hd (xs := ([] : List (S31))) (inner := []) (ok := fun _ => True) ?hr ?hp (fun _ hk => hk) trivial (Below.refl _ _) (Nat.le_refl _) (by simp) ?_; (case hd => rfl); (case hg => rfl); (case hr => first | (go_simp; done) | (go_simp; rfl)); (case hp => exact (Reps.none _ _)); intro e4 k4 b5 hb hg_ hnew_; clear hg_ hnew_; (first | rw [← d0.out] at b5 | (simp only [Int.reduceToNat] at b5; rw [← d0.out] at b5)); have b6 := zA (Kd.R_lower (Kd.R_new' (Kd.R_new' b5 (Kd.R_lt (zR a2.out))) (Kd.R_lt (zR a4.out))) (below_size (zX HB.out (IsS113.ge a0.out)))); replace a2 := zA (Kd.R_elder' (zR a2.out) (Kd.R_base b5) hb); replace a4 := zA (Kd.R_elder' (zR a4.out) (Kd.R_base b5) hb); replace HB := zA (below_step (zX HB.out (IsS113.ge a0.out)) hb); replace a0 := zA (IsS113.below (by repeat (first | (with_reducible first | exact a0.out | apply IsS113.alloc | apply IsS113.drewN | apply IsS113.drew | apply IsS113.set_1 | apply IsS113.set_2) | exact a0.out)) hb); clear hb b5; obtain ⟨c5, c6, i5⟩ := Kd.R_slice a2.out; subst i5) | ((with_reducible refine gate_builtin (b := .append) (xs := #[.tmp 15, .tmp 16]) rfl ?_); at_builtin; refine Kd.R_append_rows k31 (w0 := w) w.heap.size rfl (.tmp 15) (.tmp 16) 27 31 (.agg #[(.string ⟨#[]⟩), (.string ⟨#[]⟩)]) 32 rfl Tryd.underlying27 info31 rfl (by decide) (by omega) e4 c3 a6 _ _ _ (fun k_ => some k_ ≠ (.slice c5 a6.length c6 : Value).ownBlock ∧ some k_ ≠ (b4 : Value).ownBlock) (fun _ => False) rfl rfl ?aO ?aR (fun _ _ h => h) (fun _ h => h.elim) ?aF ?aB ?aS ?aL ?_; (case aR => repeat (first | exact (Kd.R_reads' a2.out).2.2 | (with_reducible refine Kd.C_alloc ?_ _) | (with_reducible refine Kd.C_drewN ?_ _) | (with_reducible refine Kd.C_drew ?_))); (case aB => exact (zX HB.out (IsS113.ge a0.out))); (case aF => exact (fun k_ hk => ⟨Kd.fresh' (Kd.R_lt (zR a2.out)) k_ hk, Kd.fresh' (Kd.R_lt (zR a4.out)) k_ hk⟩)); (case aO => exact (zR (Kd.R_mono b6.out (fun _ hk => ⟨hk.1.2, hk.2⟩)))); (case aS => exact (below_size (zX HB.out (IsS113.ge a0.out)))); (case aL => have := g4.out; omega); intro i6 b7 ho hb hg hat; rw [← g5.out] at ho; replace a0 := zA (IsS113.grown (by repeat (first | (with_reducible first | exact a0.out | apply IsS113.alloc | apply IsS113.drewN | apply IsS113.drew | apply IsS113.set_1 | apply IsS113.set_2) | exact a0.out)) hg (IsS113.own_ne a0.out b6.out (by decide))); replace a2 := zA (Kd.R_after (ok := (fun k_ => some k_ ≠ (b4 : Value).ownBlock)) (zR (Kd.R_mono a2.out (fun _ hk => ⟨hk.1.2, hk.2⟩))) hg hat); replace a4 := zA (Kd.R_after (ok := (fun k_ => some k_ ≠ (.slice c5 a6.length c6 : Value).ownBlock)) (zR (Kd.R_mono a4.out (fun _ hk => ⟨hk.1.2, hk.2⟩))) hg hat); replace HB := zA (hb); have a8 := zA (ho); clear b6; clear ho hb hg hat; obtain ⟨k5, c2, i7⟩ := Kd.R_slice a8.out; subst i7; have e5 : 0 ≤ (0 : Int) := (by omega); have e6 : 0 < (a1.length : Int) := zD; obtain ⟨k6, i8, d1, d2⟩ := at_T31 (Kd.R_reads' a8.out).2.2 0 e5 e6; cases i8; have k7 : (0 < a1.length) = True := eq_true (by omega); (try rw [show ((0 : Int)).toNat = 0 from rfl] at d1); (try rw [show 0 * 2 = 0 from rfl] at d1); (try rw [Addr.add_zero'] at d1); (try rw [show ((0 : Int)).toNat = 0 from rfl] at d2); (try rw [show 0 * 2 = 0 from rfl] at d2); (try rw [Addr.add_zero'] at d2); replace e5 := eq_true e5; replace e6 := eq_true e6; have e7 : 0 ≤ (0 : Int) := (by omega); have e8 : (0 : Int) < ((a1.length : Int) : Int) := zD; have k8 : (0 < a1.length) = True := eq_true (by omega); obtain ⟨b1, k9, g8, g9, i9, l1, h0⟩ := Kd.R_form a8.out (by omega); (first | cases g8 | (injection g8 with ea_ en_ ec_; (first | subst ea_ | (injection ea_ with ea_; subst ea_)); subst ec_; clear en_)); have j0 := zA g9; have l2 := zA h0; clear g9 i9 h0; (first | simp only [add_plain] at d1 | skip); (first | simp only [add_plain] at d2 | skip); obtain ⟨l3, j1, h1, e9, f2⟩ := Kd.R_elem a8.out z31 (0 : Int) e7 e8; obtain rfl := k31_openM h1; have h2 : b7.cell? ⟨b1, (0 : Int).toNat * 2, none⟩ = some (.string ((rd_T31 a1 0).f0)) := e9 0 _ rfl; have h3 : b7.cell? ⟨b1, (0 : Int).toNat * 2 + 1, none⟩ = some (.string ((rd_T31 a1 0).f1)) := e9 1 _ rfl; have h4 : b7.frozen? ⟨b1, (0 : Int).toNat * 2, none⟩ = false := f2 0; have h5 : b7.frozen? ⟨b1, (0 : Int).toNat * 2 + 1, none⟩ = false := f2 1; clear j1 e9 f2; (try clear h1); (try rw [show ((0 : Int)).toNat = 0 from rfl] at h2); (try simp only [Nat.reduceMul, Nat.zero_mul, Nat.zero_add, Nat.reduceAdd] at h2); (try rw [show ((0 : Int)).toNat = 0 from rfl] at h4); (try simp only [Nat.reduceMul, Nat.zero_mul, Nat.zero_add, Nat.reduceAdd] at h4); (try rw [show ((0 : Int)).toNat = 0 from rfl] at h3); (try simp only [Nat.reduceMul, Nat.zero_mul, Nat.zero_add, Nat.reduceAdd] at h3); (try rw [show ((0 : Int)).toNat = 0 from rfl] at h5); (try simp only [Nat.reduceMul, Nat.zero_mul, Nat.zero_add, Nat.reduceAdd] at h5); replace e7 := eq_true e7; replace e8 := eq_true e8; have h6 := zA (show Kd.R k31 31 b7 w.heap.size (fun k_ => some k_ ≠ (.slice c5 a6.length c6 : Value).ownBlock ∧ some k_ ≠ (b4 : Value).ownBlock) (.slice (some ⟨b1, 0, none⟩) a1.length c2) a1 from (zR a8.out)); obtain ⟨l4, h7, h8, f3, h9⟩ := Kd.R_elem h6.out z31 (0 : Int) (by omega) (by have h_ : (0 : Int) < ((a1.length : Int) : Int) := zD; first | exact h_ | (have e_ := (Kd.R_reads' a8.out).1; omega) | simpa using h_); obtain rfl := k31_openM h8; have f4 := Kd.R_seg h6.out (0 : Int) (by omega) (by have h_ : (0 : Int) < ((a1.length : Int) : Int) := zD; first | exact h_ | (have e_ := (Kd.R_reads' a8.out).1; omega) | simpa using h_) (seg := [.string (((rd_T31 a1 0).f1) ++ (⟨#[33]⟩ : ByteArray))]) (j := 1) h7 f3 (show 2 ≤ 2 from by decide) (x' := (⟨(rd_T31 a1 0).f0, ((rd_T31 a1 0).f1) ++ (⟨#[33]⟩ : ByteArray)⟩ : S31)) (k31_mkM _ _ _ (⟨(rd_T31 a1 0).f0, ((rd_T31 a1 0).f1) ++ (⟨#[33]⟩ : ByteArray)⟩ : S31) ) (fun _ hk => hk); have f5 := f3 1 _ rfl; (try simp only [show (k31).sz = 2 from rfl, Nat.mul_one, Nat.add_zero] at f5); (try rw [show ((0 : Int)).toNat = 0 from rfl] at f5); (try simp only [Nat.reduceMul, Nat.zero_mul, Nat.zero_add, Nat.reduceAdd] at f5); have f6 := h9 1; (try simp only [show (k31).sz = 2 from rfl, Nat.mul_one, Nat.add_zero] at f6); (try rw [show ((0 : Int)).toNat = 0 from rfl] at f6); (try simp only [Nat.reduceMul, Nat.zero_mul, Nat.zero_add, Nat.reduceAdd] at f6); clear h7 f3 h9; (try clear h8)) | ((with_reducible refine gate_store (t := 9) (p := 28) rfl ?_); refine store_event (t := 9) (p := 28) (v := ?vo_w22) (w1 := (b7.setCell ⟨b1, 1, none⟩ (.string (((rd_T31 a1 0).f1) ++ (⟨#[33]⟩ : ByteArray))))) ?hg ?ho ?hn ?hr ?_; (case ho => rfl); (case hg => rfl); (case hn => rfl); (case hr => first | (go_simp; done) | (go_simp; rfl)); intro f7 hw; have hg : b7.grownBy f7 (some b1) := (by rw [hw]; exact f4.2); have hp_ : Kd.R k31 31 f7 w.heap.size (fun k_ => some k_ ≠ (.slice c5 a6.length c6 : Value).ownBlock ∧ some k_ ≠ (b4 : Value).ownBlock) (.slice (some ⟨b1, 0, none⟩) a1.length c2) g6 := (by rw [hw, i4.out]; exact f4.1); clear f4; replace a0 := zA (IsS113.grown (by repeat (first | (with_reducible first | exact a0.out | apply IsS113.alloc | apply IsS113.drewN | apply IsS113.drew | apply IsS113.set_1 | apply IsS113.set_2) | exact a0.out)) hg (IsS113.own_ne a0.out a8.out (by decide))); replace a2 := zA (Kd.R_after (v := (.slice (some ⟨b1, 0, none⟩) a1.length c2)) (v1 := (.slice (some ⟨b1, 0, none⟩) a1.length c2)) (ok := (fun k_ => some k_ ≠ (b4 : Value).ownBlock)) (zR a2.out) hg (.inl rfl)); replace a4 := zA (Kd.R_after (v := (.slice (some ⟨b1, 0, none⟩) a1.length c2)) (v1 := (.slice (some ⟨b1, 0, none⟩) a1.length c2)) (ok := (fun k_ => some k_ ≠ (.slice c5 a6.length c6 : Value).ownBlock)) (zR a4.out) hg (.inl rfl)); replace a8 := zA (hp_); replace HB := zA ((by rw [hw]; exact below_set (HB.out) j0.out : Below w.heap.size w f7)); clear hg hw hp_))
   go_ret2
   exact ⟨_, _, zE, zR (Kd.R_mono a2.out (fun _ hk => hk.2)), zR (Kd.R_mono a8.out (fun _ hk => hk.1)), zX HB.out (IsS113.ge a0.out)⟩
  have i2 : decide (0 < (a1.length : Int)) = false := decide_eq_false c8; have i3 : decide (0 < a1.length) = false := decide_eq_false (by omega); clear c8; simp only [zU] at H; obtain ⟨rfl, rfl⟩ := H
  go_enter Tryd.func26, Tryd.ntmps26
  go_wp2_with (first | ((with_reducible refine zq 64 ?_); refine zg (some 8) Tryd.func64 #[.slice A0 l0.length c0] ?_; (with_reducible refine (spec_l1New.calls k _ _ l0 a5 b9 c1 w _ ?s1 ?s2 ?s3 A2.out).mono ?_); (case s1 => repeat (first | (with_reducible first | exact HB.out | apply below_alloc | apply pw_below_drewN | apply below_drew1) | exact HB.out)); (case s2 => exact d5.out); (case s3 => exact d6.out); rintro e l5 ⟨a3, rfl, hi, hb, c4⟩; refine ⟨_, rfl, ?_⟩; replace HB := zA (hb); have a0 := zA (hi); (try clear hb c4 hi)) | ((with_reducible refine zq 67 ?_); refine zg (some 10) Tryd.func67 #[.pointer (some ⟨a3, 0, none⟩)] ?_; (with_reducible refine (spec_l5Any.calls k a3 a5 b9 c1 a6 b2 b3 w _ ?s1 ?s2 A3.out).mono ?_); (case s1 => repeat (first | (with_reducible first | exact a0.out | apply IsS113.alloc | apply IsS113.drewN | apply IsS113.drew | apply IsS113.set_1 | apply IsS113.set_2) | exact a0.out)); (case s2 => repeat (first | (with_reducible first | exact HB.out | apply below_alloc | apply pw_below_drewN | apply below_drew1 | refine below_set ?_ (IsS113.ge a0.out)) | exact HB.out)); rintro e l6 ⟨g7, rfl, a7, hi, hb, hk⟩; refine ⟨_, rfl, ?_⟩; have a2 := zA (Kd.R_lower a7 (below_size (zX HB.out (IsS113.ge a0.out)))); replace HB := zA (hb); replace a0 := zA (hi); (try clear hb hk hi a7)) | ((with_reducible refine zq 71 ?_); refine zg (some 12) Tryd.func71 #[.pointer (some ⟨a3, 0, none⟩)] ?_; (with_reducible refine (spec_l5Draw.calls k a3 a5 b2 b3 d7 a9 b0 w _ ?s1 ?s2 A4.out).mono ?_); (case s1 => repeat (first | (with_reducible first | exact a0.out | apply IsS113.alloc | apply IsS113.drewN | apply IsS113.drew | apply IsS113.set_1 | apply IsS113.set_2) | exact a0.out)); (case s2 => repeat (first | (with_reducible first | exact HB.out | apply below_alloc | apply pw_below_drewN | apply below_drew1 | refine below_set ?_ (IsS113.ge a0.out)) | exact HB.out)); rintro e l7 ⟨b4, rfl, a7, hi, hb, hk⟩; refine ⟨_, rfl, ?_⟩; have a4 := zA (Kd.R_lower (Kd.R_new' a7 (Kd.R_lt (zR a2.out))) (below_size (zX HB.out (IsS113.ge a0.out)))); replace a2 := zA (Kd.R_mono (Kd.R_told (Kd.R_oldK (IsS113.apart (show IsS113 w _ a3 a5 b2 b3 from by repeat (first | (with_reducible first | exact a0.out | apply IsS113.alloc | apply IsS113.drewN | apply IsS113.drew | apply IsS113.set_1 | apply IsS113.set_2) | exact a0.out)) (zR a2.out) (by decide)) hk) (Kd.R_base a7)) (fun _ h_ => h_.1)); replace HB := zA (hb); replace a0 := zA (hi); (try clear hb hk hi a7)) | ((with_reducible refine zq 72 ?_); refine zg (some 14) Tryd.func72 #[.pointer (some ⟨a3, 0, none⟩), .int .i64 3] ?_; (with_reducible refine (spec_l1Once.calls k a3 a5 a9 b0 3 true d8 d9 w _ ?s1 ?s2 A5.out).mono ?_); (case s1 => repeat (first | (with_reducible first | exact a0.out | apply IsS113.alloc | apply IsS113.drewN | apply IsS113.drew | apply IsS113.set_1 | apply IsS113.set_2) | exact a0.out)); (case s2 => repeat (first | (with_reducible first | exact HB.out | apply below_alloc | apply pw_below_drewN | apply below_drew1 | refine below_set ?_ (IsS113.ge a0.out)) | exact HB.out)); rintro e l8 ⟨rfl, hi, hb, hk⟩; refine ⟨_, rfl, ?_⟩; replace a2 := zA (Kd.R_mono (Kd.R_keep (IsS113.apart (show IsS113 w _ a3 a5 a9 b0 from by repeat (first | (with_reducible first | exact a0.out | apply IsS113.alloc | apply IsS113.drewN | apply IsS113.drew | apply IsS113.set_1 | apply IsS113.set_2) | exact a0.out)) (zR a2.out) (by decide)) hk (fun _ h => h.2)) (fun _ h => h.1)); replace a4 := zA (Kd.R_mono (Kd.R_keep (IsS113.apart (show IsS113 w _ a3 a5 a9 b0 from by repeat (first | (with_reducible first | exact a0.out | apply IsS113.alloc | apply IsS113.drewN | apply IsS113.drew | apply IsS113.set_1 | apply IsS113.set_2) | exact a0.out)) (zR a4.out) (by decide)) hk (fun _ h => h.2)) (fun _ h => h.1)); replace HB := zA (hb); replace a0 := zA (hi); (try clear hb hk hi)) | ((with_reducible refine gate_dst (N := 15) rfl ?_); refine Kd.R_lit k31 _ 31 ?hg (N := 15) ?hd (xs := ([] : List (S31))) (inner := []) (ok := fun _ => True) ?hr ?hp (fun _ hk => hk) trivial (Below.refl _ _) (Nat.le_refl _) (by simp) ?_; (case hd => rfl); (case hg => rfl); (case hr => first | (go_simp; done) | (go_simp; rfl)); (case hp => exact (Reps.none _ _)); intro e4 l9 b8 hb hg_ hnew_; clear hg_ hnew_; (first | rw [← d0.out] at b8 | (simp only [Int.reduceToNat] at b8; rw [← d0.out] at b8)); have b6 := zA (Kd.R_lower (Kd.R_new' (Kd.R_new' b8 (Kd.R_lt (zR a2.out))) (Kd.R_lt (zR a4.out))) (below_size (zX HB.out (IsS113.ge a0.out)))); replace a2 := zA (Kd.R_elder' (zR a2.out) (Kd.R_base b8) hb); replace a4 := zA (Kd.R_elder' (zR a4.out) (Kd.R_base b8) hb); replace HB := zA (below_step (zX HB.out (IsS113.ge a0.out)) hb); replace a0 := zA (IsS113.below (by repeat (first | (with_reducible first | exact a0.out | apply IsS113.alloc | apply IsS113.drewN | apply IsS113.drew | apply IsS113.set_1 | apply IsS113.set_2) | exact a0.out)) hb); clear hb b8; obtain ⟨i0, i1, j2⟩ := Kd.R_slice a2.out; subst j2) | ((with_reducible refine gate_builtin (b := .append) (xs := #[.tmp 15, .tmp 16]) rfl ?_); at_builtin; refine Kd.R_append_rows k31 (w0 := w) w.heap.size rfl (.tmp 15) (.tmp 16) 27 31 (.agg #[(.string ⟨#[]⟩), (.string ⟨#[]⟩)]) 32 rfl Tryd.underlying27 info31 rfl (by decide) (by omega) e4 c3 a6 _ _ _ (fun k_ => some k_ ≠ (.slice i0 a6.length i1 : Value).ownBlock ∧ some k_ ≠ (b4 : Value).ownBlock) (fun _ => False) rfl rfl ?aO ?aR (fun _ _ h => h) (fun _ h => h.elim) ?aF ?aB ?aS ?aL ?_; (case aR => repeat (first | exact (Kd.R_reads' a2.out).2.2 | (with_reducible refine Kd.C_alloc ?_ _) | (with_reducible refine Kd.C_drewN ?_ _) | (with_reducible refine Kd.C_drew ?_))); (case aB => exact (zX HB.out (IsS113.ge a0.out))); (case aF => exact (fun k_ hk => ⟨Kd.fresh' (Kd.R_lt (zR a2.out)) k_ hk, Kd.fresh' (Kd.R_lt (zR a4.out)) k_ hk⟩)); (case aO => exact (zR (Kd.R_mono b6.out (fun _ hk => ⟨hk.1.2, hk.2⟩)))); (case aS => exact (below_size (zX HB.out (IsS113.ge a0.out)))); (case aL => have := g4.out; omega); intro i6 m0 ho hb hg hat; rw [← g5.out] at ho; replace a0 := zA (IsS113.grown (by repeat (first | (with_reducible first | exact a0.out | apply IsS113.alloc | apply IsS113.drewN | apply IsS113.drew | apply IsS113.set_1 | apply IsS113.set_2) | exact a0.out)) hg (IsS113.own_ne a0.out b6.out (by decide))); replace a2 := zA (Kd.R_after (ok := (fun k_ => some k_ ≠ (b4 : Value).ownBlock)) (zR (Kd.R_mono a2.out (fun _ hk => ⟨hk.1.2, hk.2⟩))) hg hat); replace a4 := zA (Kd.R_after (ok := (fun k_ => some k_ ≠ (.slice i0 a6.length i1 : Value).ownBlock)) (zR (Kd.R_mono a4.out (fun _ hk => ⟨hk.1.2, hk.2⟩))) hg hat); replace HB := zA (hb); have a8 := zA (ho); clear b6; clear ho hb hg hat; obtain ⟨m1, m2, j3⟩ := Kd.R_slice a8.out; subst j3))
  go_ret2
  exact ⟨_, _, zE, zR (Kd.R_mono a2.out (fun _ hk => hk.2)), zR (Kd.R_mono a8.out (fun _ hk => hk.1)), zX HB.out (IsS113.ge a0.out)⟩
 simp only [zU] at H
 obtain ⟨rfl, rfl⟩ := H
 go_enter Tryd.func26, Tryd.ntmps26
 go_wp2_with (first | ((with_reducible refine zq 64 ?_); refine zg (some 8) Tryd.func64 #[.slice A0 l0.length c0] ?_; (with_reducible refine (spec_l1New.calls k _ _ l0 a5 b9 c1 w _ ?s1 ?s2 ?s3 A2.out).mono ?_); (case s1 => repeat (first | (with_reducible first | exact HB.out | apply below_alloc | apply pw_below_drewN | apply below_drew1) | exact HB.out)); (case s2 => exact d5.out); (case s3 => exact d6.out); rintro e m3 ⟨a3, rfl, hi, hb, c4⟩; refine ⟨_, rfl, ?_⟩; replace HB := zA (hb); have a0 := zA (hi); (try clear hb c4 hi)) | ((with_reducible refine zq 67 ?_); refine zg (some 10) Tryd.func67 #[.pointer (some ⟨a3, 0, none⟩)] ?_; (with_reducible refine (spec_l5Any.calls k a3 a5 b9 c1 a6 b2 b3 w _ ?s1 ?s2 A3.out).mono ?_); (case s1 => repeat (first | (with_reducible first | exact a0.out | apply IsS113.alloc | apply IsS113.drewN | apply IsS113.drew | apply IsS113.set_1 | apply IsS113.set_2) | exact a0.out)); (case s2 => repeat (first | (with_reducible first | exact HB.out | apply below_alloc | apply pw_below_drewN | apply below_drew1 | refine below_set ?_ (IsS113.ge a0.out)) | exact HB.out)); rintro e m4 ⟨g7, rfl, a7, hi, hb, hk⟩; refine ⟨_, rfl, ?_⟩; have a2 := zA (Kd.R_lower a7 (below_size (zX HB.out (IsS113.ge a0.out)))); replace HB := zA (hb); replace a0 := zA (hi); (try clear hb hk hi a7)) | ((with_reducible refine zq 71 ?_); refine zg (some 12) Tryd.func71 #[.pointer (some ⟨a3, 0, none⟩)] ?_; (with_reducible refine (spec_l5Draw.calls k a3 a5 b2 b3 d7 a9 b0 w _ ?s1 ?s2 A4.out).mono ?_); (case s1 => repeat (first | (with_reducible first | exact a0.out | apply IsS113.alloc | apply IsS113.drewN | apply IsS113.drew | apply IsS113.set_1 | apply IsS113.set_2) | exact a0.out)); (case s2 => repeat (first | (with_reducible first | exact HB.out | apply below_alloc | apply pw_below_drewN | apply below_drew1 | refine below_set ?_ (IsS113.ge a0.out)) | exact HB.out)); rintro e m5 ⟨b4, rfl, a7, hi, hb, hk⟩; refine ⟨_, rfl, ?_⟩; have a4 := zA (Kd.R_lower (Kd.R_new' a7 (Kd.R_lt (zR a2.out))) (below_size (zX HB.out (IsS113.ge a0.out)))); replace a2 := zA (Kd.R_mono (Kd.R_told (Kd.R_oldK (IsS113.apart (show IsS113 w _ a3 a5 b2 b3 from by repeat (first | (with_reducible first | exact a0.out | apply IsS113.alloc | apply IsS113.drewN | apply IsS113.drew | apply IsS113.set_1 | apply IsS113.set_2) | exact a0.out)) (zR a2.out) (by decide)) hk) (Kd.R_base a7)) (fun _ h_ => h_.1)); replace HB := zA (hb); replace a0 := zA (hi); (try clear hb hk hi a7)) | ((with_reducible refine zq 72 ?_); refine zg (some 14) Tryd.func72 #[.pointer (some ⟨a3, 0, none⟩), .int .i64 3] ?_; (with_reducible refine (spec_l1Once.calls k a3 a5 a9 b0 3 false d8 d9 w _ ?s1 ?s2 A5.out).mono ?_); (case s1 => repeat (first | (with_reducible first | exact a0.out | apply IsS113.alloc | apply IsS113.drewN | apply IsS113.drew | apply IsS113.set_1 | apply IsS113.set_2) | exact a0.out)); (case s2 => repeat (first | (with_reducible first | exact HB.out | apply below_alloc | apply pw_below_drewN | apply below_drew1 | refine below_set ?_ (IsS113.ge a0.out)) | exact HB.out)); rintro e m6 ⟨rfl, hi, hb, hk⟩; refine ⟨_, rfl, ?_⟩; replace a2 := zA (Kd.R_mono (Kd.R_keep (IsS113.apart (show IsS113 w _ a3 a5 a9 b0 from by repeat (first | (with_reducible first | exact a0.out | apply IsS113.alloc | apply IsS113.drewN | apply IsS113.drew | apply IsS113.set_1 | apply IsS113.set_2) | exact a0.out)) (zR a2.out) (by decide)) hk (fun _ h => h.2)) (fun _ h => h.1)); replace a4 := zA (Kd.R_mono (Kd.R_keep (IsS113.apart (show IsS113 w _ a3 a5 a9 b0 from by repeat (first | (with_reducible first | exact a0.out | apply IsS113.alloc | apply IsS113.drewN | apply IsS113.drew | apply IsS113.set_1 | apply IsS113.set_2) | exact a0.out)) (zR a4.out) (by decide)) hk (fun _ h => h.2)) (fun _ h => h.1)); replace HB := zA (hb); replace a0 := zA (hi); (try clear hb hk hi)))
 go_ret2
 exact ⟨_, _, zE, zR (Kd.R_mono a2.out (fun _ hk => hk.2)), zR (Kd.R_mono a4.out (fun _ hk => hk.2)), zX HB.out (IsS113.ge a0.out)⟩
/-! ### slices_Clone_string_string: function 86 -/
def slices_Clone_string_string.f (l0 : List ByteArray) : Option (List ByteArray) := (some (([] : List ByteArray) : List ByteArray)).bind fun a0 => (if a0.length + l0.length < 8796093022208 then (some (a0 ++ l0)) else (none))
theorem slices_Clone_string_string.calls (A0 : Option Addr) (c0 : Nat) (l0 r : List ByteArray) (w : World) (a5 : Kd.C Kd.string w A0 l0.length l0) (a6 : l0.length ≤ c0) (h : slices_Clone_string_string.f l0 = some r) :
  Calls Tryd.prog 86 #[.slice A0 l0.length c0] w fun e w' => ∃ a7 : Value, e = .returned (a7) ∧ Kd.R Kd.string 9 w' w.heap.size (fun _ => True) a7 r ∧ Below w.heap.size w w' := by
 have a8 := zA a5
 have b5 := zA a6
 clear a5 a6
 have HB := zA (Below.refl w.heap.size w)
 unfold slices_Clone_string_string.f at h
 have H := h
 clear h
 obtain ⟨a1, a2⟩ : ∃ y_ : List ByteArray, y_ = (([] : List ByteArray)) := ⟨_, rfl⟩
 replace H : (if a1.length + l0.length < 8796093022208 then (some (a1 ++ l0)) else (none)) = some r := zY a2 H
 have a3 := zA a2
 clear a2
 replace H := zC0 H
 obtain ⟨c2, H⟩ := H
 have b1 := zA c2
 clear c2
 obtain ⟨b2, a4⟩ : ∃ y_ : List ByteArray, y_ = (a1 ++ l0) := ⟨_, rfl⟩
 replace H : (some b2) = some r := zY a4 H
 have a9 := zA a4
 clear a4
 obtain rfl := zm H
 rcases A0 with _ | A0v
 ·have he_ : l0 = [] := by
   rcases l0 with _ | ⟨x_, l_⟩
   ·rfl
   ·obtain ⟨_, h_, _⟩ := a8.out.2.2 (by simp); cases h_
  subst he_
  have hq_ : ∀ W : World, Sem.run Tryd.prog (Go.binOp .eql 47 (.slice none 0 c0) (.slice none 0 0)) W = .ok (.bool true) W := fun W => by rw [Lib.run_eql_slice_nil W 47 9 none 0 c0 0 0 Tryd.underlying47]; rfl
  go_enter Tryd.func86, Tryd.ntmps86
  go_wp2
  go_ret
  exact ⟨_, rfl, (by rw [a9.out, a3.out]; exact Kd.R_nil _ _ _ _ _), zB⟩
 have hq_ : ∀ W : World, Sem.run Tryd.prog (Go.binOp .eql 47 (.slice (some A0v) l0.length c0) (.slice none 0 0)) W = .ok (.bool false) W := fun W => by rw [Lib.run_eql_slice_nil W 47 9 (some A0v) l0.length c0 0 0 Tryd.underlying47]; rfl
 go_enter Tryd.func86, Tryd.ntmps86
 go_wp2_with (first | ((with_reducible refine gate_dst (N := 5) rfl ?_); refine Kd.R_lit Kd.string _ 9 ?hg (N := 5) ?hd (xs := ([] : List ByteArray)) (inner := []) (ok := fun _ => True) ?hr ?hp (fun _ hk => hk) trivial (Below.refl _ _) (Nat.le_refl _) (by simp) ?_; (case hd => rfl); (case hg => rfl); (case hr => first | (go_simp; done) | (go_simp; rfl)); (case hp => exact (Reps.none _ _)); intro b3 w3 a0 hb hg_ hnew_; clear hg_ hnew_; (first | rw [← a3.out] at a0 | (simp only [Int.reduceToNat] at a0; rw [← a3.out] at a0)); have b0 := zA (Kd.R_lower a0 (below_size (zB))); replace HB := zA (below_step (zB) hb); clear hb a0) | ((with_reducible refine gate_builtin (b := .append) (xs := #[.tmp 5, .tmp 6]) rfl ?_); at_builtin; refine Kd.R_append_rows Kd.string (w0 := w) w.heap.size rfl (.tmp 5) (.tmp 6) 47 9 (.string ⟨#[]⟩) 16 rfl Tryd.underlying47 info9 rfl (by decide) (by omega) b3 a1 l0 _ _ _ (fun _ => True) (fun _ => False) rfl rfl ?aO ?aR (fun _ _ h => h) (fun _ h => h.elim) ?aF ?aB ?aS ?aL ?_; (case aR => repeat (first | exact (Kd.C_below a8.out HB.out) | (with_reducible refine Kd.C_alloc ?_ _) | (with_reducible refine Kd.C_drewN ?_ _) | (with_reducible refine Kd.C_drew ?_))); (case aB => exact (zB)); (case aF => exact (fun _ _ => trivial)); (case aO => exact (zR b0.out)); (case aS => exact (below_size (zB))); (case aL => have := b1.out; omega); intro b6 w5 ho hb hg hat; rw [← a9.out] at ho; replace HB := zA (hb); have b4 := zA (ho); clear b0; clear ho hb hg hat))
 go_ret
 exact ⟨_, zE, zR b4.out, zB⟩
/-! ### impl_Sorted: function 44 -/
/-- A slice whose capacity is cut to its length. -/
def impl_Sorted.clip : Value → Value
 | .slice A n _ => .slice A n n
 | v => v
def impl_Sorted.strs (l : List ByteArray) : List (List UInt8) := l.map fun x => x.data.toList
def impl_Sorted.back (l : List (List UInt8)) : List ByteArray := l.map fun b => ⟨b.toArray⟩
theorem impl_Sorted.strs_back (l : List (List UInt8)) : impl_Sorted.strs (impl_Sorted.back l) = l := by
 rw [impl_Sorted.strs, impl_Sorted.back, List.map_map]
 exact List.map_id'' (fun _ => rfl) l
theorem impl_Sorted.back_strs (l : List ByteArray) : impl_Sorted.back (impl_Sorted.strs l) = l := by
 rw [impl_Sorted.strs, impl_Sorted.back, List.map_map]
 exact List.map_id'' (fun _ => rfl) l
theorem impl_Sorted.encs_strs (l : List ByteArray) : encs Value.string l = (impl_Sorted.strs l).map encStr := by
 rw [encs, impl_Sorted.strs, List.map_map]
 rfl
def impl_Sorted.rise (l : List ByteArray) : List ByteArray := impl_Sorted.back ((impl_Sorted.strs l).mergeSort fun x y => decide (x ≤ y))
def impl_Sorted.once (l : List ByteArray) : List ByteArray := impl_Sorted.back (Lib.compact (impl_Sorted.strs l))
def impl_Sorted.f (l0 : List ByteArray) : Option (List ByteArray) := (slices_Clone_string_string.f l0).bind fun y => some (impl_Sorted.once (impl_Sorted.rise y))
/-- The row behind a store of other texts into it. -/
theorem impl_Sorted.turned {w w' : World} {base : Nat} {ok : Nat → Prop} {g n c : Nat} {l m : List ByteArray} (h : Kd.R Kd.string 9 w base ok (.slice (some ⟨g, 0, none⟩) n c) l) (hm : m.length = l.length)
  (hw : ∃ q os, w' = Go.Sort.grow (Go.Sort.putRow encStr (Go.Sort.ahead w q) g 0 (impl_Sorted.strs m).toArray) os) :
  Kd.R Kd.string 9 w' base ok (.slice (some ⟨g, 0, none⟩) n c) m ∧ w.grownBy w' (some g) := by
 obtain ⟨q, os, rfl⟩ := hw
 have ho := Kd.own_of_R h
 have hok := h.1
 have hn : n = l.length := (Kd.R_reads' h).1
 subst hn
 rcases ho.2 with ⟨hv, _⟩ | ⟨g', cap, cur, hv, hbase, hb, h1, h2, h3, _⟩
 ·cases hv
 ·injection hv with ha _ hc; injection ha with ha; injection ha with hg; subst hg; subst hc
  have hlen : (impl_Sorted.strs l).length = l.length := by simp [impl_Sorted.strs]
  have hlen' : (impl_Sorted.strs m).length = (impl_Sorted.strs l).length := by simp [impl_Sorted.strs, hm]
  have r := ownsRow_sorted (n := q) (os := os) hlen' hbase hb (by rw [hlen]; exact h1) h2 h3; rw [hlen, ← impl_Sorted.encs_strs] at r
  refine ⟨Kd.R_of_own (by rw [hm]; exact r) hok, grownBy_sorted _⟩
theorem impl_Sorted.holds {w : World} {base : Nat} {ok : Nat → Prop} {g n c : Nat} {l : List ByteArray} (h : Kd.R Kd.string 9 w base ok (.slice (some ⟨g, 0, none⟩) n c) l) :
  Go.Sort.Holds encStr w g 0 (impl_Sorted.strs l).toArray ∧ g < w.heap.size ∧ base ≤ g ∧ l.length ≤ c ∧ c ≤ maxLen := by
 have ho := Kd.own_of_R h
 have hn : n = l.length := (Kd.R_reads' h).1
 subst hn
 rcases ho.2 with ⟨hv, _⟩ | ⟨g', cap, cur, hv, hbase, hb, h1, h2, h3, h4⟩
 ·cases hv
 ·injection hv with ha _ hc; injection ha with ha; injection ha with hg; subst hg; subst hc
  have hlen : (impl_Sorted.strs l).length = l.length := by simp [impl_Sorted.strs]
  refine ⟨holds_of_block hb ?_, (Array.getElem?_eq_some_iff.1 hb).1, hbase, h1, h2⟩
  rw [hlen, ← impl_Sorted.encs_strs]
  simpa using h4
/-- The first elements of a row, told of the slice that is cut to them. -/
theorem impl_Sorted.front {w : World} {base : Nat} {ok : Nat → Prop} {g n c m : Nat} {l : List ByteArray} (h : Kd.R Kd.string 9 w base ok (.slice (some ⟨g, 0, none⟩) n c) l) (hm : m ≤ n) :
  Kd.R Kd.string 9 w base ok (.slice (some ⟨g, 0, none⟩) m c) (l.take m) := by
 have ho := Kd.own_of_R h
 have hok := h.1
 have hn : n = l.length := (Kd.R_reads' h).1
 subst hn
 refine Kd.R_of_own ?_ hok
 have hl : (l.take m).length = m := by rw [List.length_take]; omega
 rcases ho.2 with ⟨hv, _⟩ | ⟨g', cap, cur, hv, hbase, hb, h1, h2, h3, h4⟩
 ·cases hv
 ·injection hv with ha _ hc; injection ha with ha; injection ha with hg; subst hg; subst hc
  refine ⟨by simp [encs], .inr ⟨g, c, cur, by rw [hl], hbase, hb, by omega, h2, h3, ?_⟩⟩
  have e := congrArg (List.take (m * 1)) h4; rw [List.take_take, Nat.min_eq_left (by omega)] at e; rw [hl, e, encs, encs, Nat.mul_one, List.map_take]
theorem impl_Sorted.sort_R (base : Nat) (ok : Nat → Prop) (v : Value) (l : List ByteArray) (w : World) (h : Kd.R Kd.string 9 w base ok v l) (hb : base ≤ w.heap.size) (hl : l.length < 4611686018427387904) :
  Calls Tryd.prog 87 #[v] w fun e w' => e = .returned (.tuple #[]) ∧ Kd.R Kd.string 9 w' base ok v (impl_Sorted.rise l) ∧ Below base w w' := by
 have hr : (impl_Sorted.rise l).length = l.length := by simp [impl_Sorted.rise, impl_Sorted.back, impl_Sorted.strs]
 rcases Nat.eq_zero_or_pos l.length with h0 | h0
 ·obtain ⟨A, c, rfl⟩ := Kd.R_slice h; have a0 : l = [] := List.length_eq_zero_iff.1 h0; subst a0
  refine (Tryd.slices_Sort_string_none A c w).mono ?_
  rintro e w' ⟨rfl, rfl⟩
  have e0 : impl_Sorted.rise [] = [] := List.length_eq_zero_iff.1 hr; rw [e0]
  exact ⟨rfl, h, Below.refl _ _⟩
 ·obtain ⟨g, c, rfl, -, -, -⟩ := Kd.R_form h h0; obtain ⟨hH, hg, hbg, -, -⟩ := impl_Sorted.holds h
  have e1 : l.length = (impl_Sorted.strs l).length := by simp [impl_Sorted.strs]
  have hc := Tryd.slices_Sort_string g 0 c (impl_Sorted.strs l) w hH hg (by rw [← e1]; exact hl); rw [← e1] at hc
  refine hc.mono ?_
  rintro e w' ⟨rfl, n, os, rfl⟩
  obtain ⟨t1, t2⟩ := impl_Sorted.turned (m := impl_Sorted.rise l) h hr ⟨n, os, by rw [impl_Sorted.rise, impl_Sorted.strs_back]⟩
  exact ⟨rfl, t1, Below.grown (row := some g) (Below.refl _ _) t2 hb (fun k e => by injection e with e; omega)⟩
theorem impl_Sorted.compact_R (base : Nat) (ok : Nat → Prop) (A : Option Addr) (n c : Nat) (l : List ByteArray) (w : World) (h : Kd.R Kd.string 9 w base ok (.slice A n c) l) (hb : base ≤ w.heap.size) :
  Calls Tryd.prog 89 #[.slice A n c] w fun e w' => e = .returned (.slice A (impl_Sorted.once l).length c) ∧ Kd.R Kd.string 9 w' base ok (.slice A (impl_Sorted.once l).length c) (impl_Sorted.once l) ∧ Below base w w' := by
 have hn : n = l.length := (Kd.R_reads' h).1
 subst hn
 rcases Nat.eq_zero_or_pos l.length with h0 | h0
 ·have a0 : l = [] := List.length_eq_zero_iff.1 h0; subst a0
  refine (Tryd.slices_Compact_string_empty A c w).mono ?_
  rintro e w' ⟨rfl, rfl⟩
  exact ⟨rfl, h, Below.refl _ _⟩
 ·obtain ⟨g, c', hv, -, -, -⟩ := Kd.R_form h h0; injection hv with hA _ hc; subst hA; subst hc; obtain ⟨hH, hg, hbg, hlc, hcm⟩ := impl_Sorted.holds h
  have e1 : (impl_Sorted.strs l).length = l.length := by simp [impl_Sorted.strs]
  have hle : (impl_Sorted.once l).length ≤ l.length := by
   have := Lib.compact_length_le (impl_Sorted.strs l)
   rw [impl_Sorted.once, impl_Sorted.back, List.length_map]
   omega
  have e2 : (impl_Sorted.once l).length = (Lib.compact (impl_Sorted.strs l)).length := by rw [impl_Sorted.once, impl_Sorted.back, List.length_map]
  have hc := Tryd.slices_Compact_string g 0 c (impl_Sorted.strs l) w hH (by unfold maxLen at hcm; omega) (by omega); rw [e1, ← e2] at hc
  refine hc.mono ?_
  rintro e w' ⟨rfl, q, rfl⟩
  obtain ⟨t1, t2⟩ := impl_Sorted.turned (m := impl_Sorted.once l ++ List.replicate (l.length - (impl_Sorted.once l).length) ByteArray.empty) (w' := Go.Sort.putRow encStr (Go.Sort.ahead w q) g 0 (Lib.compact (impl_Sorted.strs l) ++ List.replicate (l.length - (impl_Sorted.once l).length) []).toArray) h (by rw [List.length_append, List.length_replicate]; omega)
   ⟨q, #[], by
    rw [Go.Sort.grow_empty]
    have e3 : impl_Sorted.strs (impl_Sorted.once l ++ List.replicate (l.length - (impl_Sorted.once l).length) ByteArray.empty) = Lib.compact (impl_Sorted.strs l) ++ List.replicate (l.length - (impl_Sorted.once l).length) [] := by
     have e4 : (impl_Sorted.once l).map (fun x => x.data.toList) = Lib.compact (impl_Sorted.strs l) := impl_Sorted.strs_back _; rw [impl_Sorted.strs, List.map_append, List.map_replicate, e4]
     rfl
    rw [e3]⟩
  have t3 := impl_Sorted.front t1 hle; rw [List.take_left' rfl] at t3
  exact ⟨rfl, t3, Below.grown (row := some g) (Below.refl _ _) t2 hb (fun k e => by injection e with e; omega)⟩
set_option maxHeartbeats 2000000 in
set_option maxRecDepth 100000 in
theorem impl_Sorted.clips (A : Option Addr) (n c : Nat) (hnc : n ≤ c) (w : World) : Calls Tryd.prog 88 #[.slice A n c] w fun e w' => e = .returned (.slice A n n) ∧ Drawn0 w w' := by
 go_enter Tryd.func88, Tryd.ntmps88
 go_wp2
 go_ret
 exact ⟨rfl, Drawn0.refl _⟩
theorem impl_Sorted.calls (A0 : Option Addr) (c0 : Nat) (l0 r : List ByteArray) (w : World) (a1 : Kd.C Kd.string w A0 l0.length l0) (a2 : l0.length ≤ c0) (h : impl_Sorted.f l0 = some r) :
  Calls Tryd.prog 44 #[.slice A0 l0.length c0] w fun e w' => ∃ a3 : Value, e = .returned (impl_Sorted.clip a3) ∧ Kd.R Kd.string 9 w' w.heap.size (fun _ => True) a3 r ∧ Below w.heap.size w w' := by
 have a4 := zA a1
 have a5 := zA a2
 have HB := zA (Below.refl w.heap.size w)
 clear a1 a2
 unfold impl_Sorted.f at h
 replace h := Option.bind_eq_some_iff.mp h
 obtain ⟨y, hy, h⟩ := h
 obtain rfl := Option.some.inj h
 clear h
 have HL := zA (show y.length < 4611686018427387904 by
  unfold slices_Clone_string_string.f at hy
  simp only [Option.bind_some] at hy
  split at hy
  ·rename_i hlt
   have := Option.some.inj hy
   subst this; rw [List.length_append]
   omega
  ·cases hy)
 have HY := zA hy
 clear hy
 go_enter Tryd.func44, Tryd.ntmps44
 go_wp2_with (first
  | (go_at_call 86; (with_reducible refine (slices_Clone_string_string.calls A0 c0 l0 y _ ?s1 a5.out HY.out).mono ?_); (case s1 => repeat (first | exact a4.out | (with_reducible refine Kd.C_alloc ?_ _) | (with_reducible refine Kd.C_drewN ?_ _) | (with_reducible refine Kd.C_drew ?_))); rintro e w1 ⟨v1, rfl, ho, hb⟩; have a0 := zA (below_step (zB) hb); have HO := zA (Kd.R_lower ho (below_size (zB))); clear HB; have HB := a0; clear a0 hb ho)
  | (go_at_call 87; (with_reducible refine (impl_Sorted.sort_R w.heap.size (fun _ => True) v1 y _ ?s1 ?s2 HL.out).mono ?_); (case s1 => (with_reducible repeat (first | apply Kd.R_alloc | apply Kd.R_drewN | apply Kd.R_drew)); exact HO.out); (case s2 => exact below_size (zB)); rintro e w2 ⟨rfl, ho, hb⟩; have a0 := zA ((show Below w.heap.size w _ from zB).trans hb); clear HB HO; have HB := a0; have HO := zA ho; clear a0 hb ho; obtain ⟨A1, c1, e1⟩ := Kd.R_slice HO.out; subst e1)
  | (go_at_call 89; (with_reducible refine (impl_Sorted.compact_R w.heap.size (fun _ => True) A1 _ c1 (impl_Sorted.rise y) _ ?s1 ?s2).mono ?_); (case s1 => (with_reducible repeat (first | apply Kd.R_alloc | apply Kd.R_drewN | apply Kd.R_drew)); exact HO.out); (case s2 => exact below_size (zB)); rintro e w3 ⟨rfl, ho, hb⟩; have a0 := zA ((show Below w.heap.size w _ from zB).trans hb); clear HB HO; have HB := a0; have HO := zA ho; clear a0 hb ho; have hle := (Kd.R_reads' HO.out).2.1)
  | (go_at_call 88; (with_reducible refine (impl_Sorted.clips A1 _ c1 hle _).mono ?_); rintro e w4 ⟨rfl, ⟨nd, rfl⟩⟩))
 go_ret
 exact ⟨.slice A1 (impl_Sorted.once (impl_Sorted.rise y)).length c1, rfl, zR HO.out, zB⟩
/-! ### impl_DiffFiles: function 27 -/
mutual
def impl_DiffFiles.l0 : Nat → List (S31) → List (S31) → List ByteArray → List (S31) → Int → Int → Option (List ByteArray)
 | 0, _, _, _, _, _, _ => none
 | k + 1, x0, x1, x5, a1, a4, a0 => if a0 < a4 then (if 0 ≤ a0 then (if a0 < (a1.length : Int) then ((impl_GetFile.f x1 ((rd_T31 a1 a0).f0)).bind fun a6 => (if a6.2 = true then (if a6.1.toList = ((rd_T31 a1 a0).f1).toList then (impl_DiffFiles.l0 k x0 x1 x5 a1 a4 (wrap64 (a0 + 1))) else (if x5.length < 8796093022208 then (impl_DiffFiles.l0 k x0 x1 (x5 ++ [(rd_T31 a1 a0).f0]) a1 a4 (wrap64 (a0 + 1))) else (none))) else (if x5.length < 8796093022208 then (impl_DiffFiles.l0 k x0 x1 (x5 ++ [(rd_T31 a1 a0).f0]) a1 a4 (wrap64 (a0 + 1))) else (none)))) else (none)) else (none)) else (impl_DiffFiles.l1 k x0 x5 x1 (x1.length : Int) 0)
def impl_DiffFiles.l1 : Nat → List (S31) → List ByteArray → List (S31) → Int → Int → Option (List ByteArray)
 | 0, _, _, _, _, _ => none
 | k + 1, x0, x5, a3, a5, a2 => if a2 < a5 then (if 0 ≤ a2 then (if a2 < (a3.length : Int) then ((impl_fileAt.f x0 ((rd_T31 a3 a2).f0)).bind fun a7 => (if a7 < 0 then (if x5.length < 8796093022208 then (impl_DiffFiles.l1 k x0 (x5 ++ [(rd_T31 a3 a2).f0]) a3 a5 (wrap64 (a2 + 1))) else (none)) else (impl_DiffFiles.l1 k x0 x5 a3 a5 (wrap64 (a2 + 1))))) else (none)) else (none)) else ((impl_Sorted.f x5).bind fun a8 => (some a8))
end
def impl_DiffFiles.f (k : Nat) (l0 : List (S31)) (l1 : List (S31)) : Option (List ByteArray) := impl_DiffFiles.l0 k l0 l1 ([] : List ByteArray) l0 (l0.length : Int) 0
theorem impl_DiffFiles.calls (k : Nat) (A0 : Option Addr) (c0 : Nat) (l0 : List (S31)) (A1 : Option Addr) (c1 : Nat) (l1 : List (S31)) (r : List ByteArray) (w : World) (d9 : Kd.C k31 w A0 l0.length l0) (e0 : l0.length ≤ c0) (e1 : Kd.C k31 w A1 l1.length l1) (e2 : l1.length ≤ c1) (h : impl_DiffFiles.f k l0 l1 = some r) :
  Calls Tryd.prog 27 #[.slice A0 l0.length c0, .slice A1 l1.length c1] w fun e w' => ∃ e3 : Value, e = .returned (impl_Sorted.clip e3) ∧ Kd.R Kd.string 9 w' w.heap.size (fun _ => True) e3 r ∧ Below w.heap.size w w' := by
 have l4 := Tryd.underlying31
 have b5 := zA d9
 have e4 := zA e0
 clear d9 e0
 have b6 := zA e1
 have d0 := zA e2
 clear e1 e2
 have HB := zA (Below.refl w.heap.size w)
 unfold impl_DiffFiles.f at h
 have H := h
 clear h
 have H' := zA H
 clear H
 go_enter Tryd.func27, Tryd.ntmps27
 go_wp2
 go_loopg [5, 14] k (fun kq v5 g2 w' => ∃ (a8 : List ByteArray) (a0 : Int), g2 = .int .i64 a0 ∧ Aside0 (impl_DiffFiles.l0 kq l0 l1 a8 l0 (l0.length : Int) a0 = some r) ∧ Aside0 (kq ≤ k) ∧ Aside0 (Kd.R Kd.string 9 w' w.heap.size (fun _ => True) v5 a8) ∧ Aside0 (Below w.heap.size w w'))
 case atStart => exact ⟨(([] : List ByteArray)), (0), zS, H', ⟨Nat.le_refl _⟩, ⟨by first | exact Kd.R_nil _ _ _ _ _ | exact Kd.N_nil _ _ _ _ _ | exact Kd.V_nil _ _ _ _ _ | exact Kd.Q_nil _ _ _ _ _ | exact Kd.S_nil _ _ _ _ _⟩, ⟨zB⟩⟩
 case round =>
  clear H'
  try clear c1
  try clear c2
  try clear p2
  obtain ⟨a8, a0, rfl, HA, a7, a1, HB⟩ := hrel
  cases gk with
  | zero => exact absurd HA.out (by simp [impl_DiffFiles.l0])
  | succ k1 =>
   have H := HA.out; clear HA; simp only [impl_DiffFiles.l0] at H; replace H := zI0 H
   rcases H with ⟨e5, H⟩ | ⟨e5, H⟩
   ·replace H := zD0 H; obtain ⟨g3, H⟩ := H; replace H := zD0 H; obtain ⟨g4, H⟩ := H; replace H := Option.bind_eq_some_iff.mp H; obtain ⟨⟨d1, l5⟩, e6, H⟩ := H
    try dsimp only at H
    have A6 := zA e6; clear e6; replace H := zB0 H
    rcases H with ⟨rfl, H⟩ | ⟨rfl, H⟩
    ·replace H := zI1 H
     rcases H with ⟨c8, H⟩ | ⟨c8, H⟩
     ·have e7 := beq_iff_eq.mpr c8; have e8 := bne_eq_false_iff_eq.mpr c8; clear c8; have H' := zA H; clear H; have a5 : 0 ≤ (a0 : Int) := zD; have a6 : a0 < (l0.length : Int) := zD; obtain ⟨e9, b7, a9, b0⟩ := at_T31 b5.out a0 a5 a6; cases b7; replace a9 := zx HB a9; replace b0 := zx HB b0; replace a5 := eq_true a5; replace a6 := eq_true a6
      go_wp2_with (first | ((with_reducible refine zd 7 ?_); refine ze 7 31 #[.string (⟨#[]⟩ : ByteArray), .string (⟨#[]⟩ : ByteArray)] ?_; intro b2 hg w9 hbox hb; replace a1 := zr a1 hb; have a3 := zA (hbox); have f2 := zi HB hg; have f3 := zi HB hg; replace HB := zA (below_step (zB) hb); clear hb hbox hg; obtain ⟨g5, g6, g7, g8⟩ := ze2 a3.out) | ((with_reducible refine zq 21 ?_); refine zg (some 22) Tryd.func21 #[.slice A1 l1.length c1, .string ((rd_T31 l0 a0).f0)] ?_; (with_reducible refine (impl_GetFile.calls _ _ l1 ((rd_T31 l0 a0).f0) d1 true _ ?s1 ?s2 A6.out).mono ?_); (case s1 => exact Kd.C_below b6.out (zW HB.out)); (case s2 => exact d0.out); rintro e l6 ⟨rfl, hb⟩; refine ⟨_, rfl, ?_⟩; replace a1 := zA (Kd.R_below (zR (zr2 a1.out a3.out)) hb); replace a3 := zA (blk_below (g := b2) (o := .cells #[.string ((rd_T31 l0 a0).f0), .string ((rd_T31 l0 a0).f1)] 31 (0, 0)) (by (with_reducible repeat (first | refine blk_drewN ?_ _ | refine blk_drew ?_ | refine blk_alloc ?_ _)); refine blk_put (cs := #[.string ((rd_T31 l0 a0).f0), .string (⟨#[]⟩ : ByteArray)]) ?_ 1 _ rfl; (with_reducible repeat (first | refine blk_drewN ?_ _ | refine blk_drew ?_ | refine blk_alloc ?_ _)); refine blk_put (cs := #[.string (⟨#[]⟩ : ByteArray), .string (⟨#[]⟩ : ByteArray)]) ?_ 0 _ rfl; (with_reducible repeat (first | refine blk_drewN ?_ _ | refine blk_drew ?_ | refine blk_alloc ?_ _)); exact a3.out) hb); replace HB := zh HB hb; (try clear hb); obtain ⟨g9, h0, h1, h2⟩ := ze2 a3.out))
      go_roundg k1
      case measure => have := a7.out; omega
      case rel => exact ⟨(a8), (wrap64 (a0 + 1)), zS, H', ⟨by have := a7.out; omega⟩, ⟨zR a1.out⟩, ⟨zW HB.out⟩⟩
     have e7 := beq_eq_false_iff_ne.mpr c8; have e8 := bne_iff_ne.mpr c8; replace H := zC0 H; obtain ⟨d2, H⟩ := H; have h3 := zA d2; clear d2; obtain ⟨f4, d3⟩ : ∃ y_ : List ByteArray, y_ = (a8 ++ [(rd_T31 l0 a0).f0]) := ⟨_, rfl⟩; replace H : (impl_DiffFiles.l0 k1 l0 l1 f4 l0 (l0.length : Int) (wrap64 (a0 + 1))) = some r := zY d3 H; have h4 := zA d3; clear d3; have H' := zA H; clear H; have a5 : 0 ≤ (a0 : Int) := zD; have a6 : a0 < (l0.length : Int) := zD; obtain ⟨e9, b7, a9, b0⟩ := at_T31 b5.out a0 a5 a6; cases b7; replace a9 := zx HB a9; replace b0 := zx HB b0; replace a5 := eq_true a5; replace a6 := eq_true a6
     go_wp2_with (first | ((with_reducible refine zd 7 ?_); refine ze 7 31 #[.string (⟨#[]⟩ : ByteArray), .string (⟨#[]⟩ : ByteArray)] ?_; intro b2 hg l7 hbox hb; replace a1 := zr a1 hb; have a3 := zA (hbox); have f2 := zi HB hg; have f3 := zi HB hg; replace HB := zA (below_step (zB) hb); clear hb hbox hg; obtain ⟨h5, h6, h7, h8⟩ := ze2 a3.out) | ((with_reducible refine zq 21 ?_); refine zg (some 22) Tryd.func21 #[.slice A1 l1.length c1, .string ((rd_T31 l0 a0).f0)] ?_; (with_reducible refine (impl_GetFile.calls _ _ l1 ((rd_T31 l0 a0).f0) d1 true _ ?s1 ?s2 A6.out).mono ?_); (case s1 => exact Kd.C_below b6.out (zW HB.out)); (case s2 => exact d0.out); rintro e l8 ⟨rfl, hb⟩; refine ⟨_, rfl, ?_⟩; replace a1 := zA (Kd.R_below (zR (zr2 a1.out a3.out)) hb); replace a3 := zA (blk_below (g := b2) (o := .cells #[.string ((rd_T31 l0 a0).f0), .string ((rd_T31 l0 a0).f1)] 31 (0, 0)) (by (with_reducible repeat (first | refine blk_drewN ?_ _ | refine blk_drew ?_ | refine blk_alloc ?_ _)); refine blk_put (cs := #[.string ((rd_T31 l0 a0).f0), .string (⟨#[]⟩ : ByteArray)]) ?_ 1 _ rfl; (with_reducible repeat (first | refine blk_drewN ?_ _ | refine blk_drew ?_ | refine blk_alloc ?_ _)); refine blk_put (cs := #[.string (⟨#[]⟩ : ByteArray), .string (⟨#[]⟩ : ByteArray)]) ?_ 0 _ rfl; (with_reducible repeat (first | refine blk_drewN ?_ _ | refine blk_drew ?_ | refine blk_alloc ?_ _)); exact a3.out) hb); replace HB := zh HB hb; (try clear hb); obtain ⟨h9, i0, i1, i2⟩ := ze2 a3.out) | ((with_reducible refine gate_builtin (b := .append) (xs := #[.tmp 33, .tmp 36]) rfl ?_); at_builtin; refine Kd.R_append Kd.string (w0 := w) w.heap.size rfl (.tmp 33) (.tmp 36) 47 9 (.string ⟨#[]⟩) 16 rfl Tryd.underlying47 info9 rfl (by decide) (by omega) u5 a8 ((rd_T31 l0 a0).f0) [.string ((rd_T31 l0 a0).f0)] (fun _ => True) (fun _ => False) rfl rfl ?aP (fun _ hk => hk.elim) ?aF ?aO ?aB ?aS ?aL ?_; (case aP => exact rfl); (case aB => exact (zW HB.out)); (case aF => exact (fun _ _ => trivial)); (case aO => exact (zR a1.out)); (case aS => exact (below_size (zW HB.out))); (case aL => have := h3.out; omega); intro l9 m0 ho hb hg hat; rw [← h4.out] at ho; replace a3 := zA (blk_grown (g := b2) (o := .cells #[.string ((rd_T31 l0 a0).f0), .string ((rd_T31 l0 a0).f1)] 31 (0, 0)) (zK a3.out) hg (Kd.R_ne a1.out a3.out (by decide))); replace HB := zA (hb); have i3 := zA (ho); clear a1; clear ho hb hg hat))
     go_roundg k1
     case measure => have := a7.out; omega
     case rel => exact ⟨(f4), (wrap64 (a0 + 1)), zS, H', ⟨by have := a7.out; omega⟩, ⟨zR i3.out⟩, ⟨zW HB.out⟩⟩
    replace H := zC0 H; obtain ⟨d4, H⟩ := H; have i4 := zA d4; clear d4; obtain ⟨f5, d5⟩ : ∃ y_ : List ByteArray, y_ = (a8 ++ [(rd_T31 l0 a0).f0]) := ⟨_, rfl⟩; replace H : (impl_DiffFiles.l0 k1 l0 l1 f5 l0 (l0.length : Int) (wrap64 (a0 + 1))) = some r := zY d5 H; have i5 := zA d5; clear d5; have H' := zA H; clear H; have a5 : 0 ≤ (a0 : Int) := zD; have a6 : a0 < (l0.length : Int) := zD; obtain ⟨e9, b7, a9, b0⟩ := at_T31 b5.out a0 a5 a6; cases b7; replace a9 := zx HB a9; replace b0 := zx HB b0; replace a5 := eq_true a5; replace a6 := eq_true a6
    go_wp2_with (first | ((with_reducible refine zd 7 ?_); refine ze 7 31 #[.string (⟨#[]⟩ : ByteArray), .string (⟨#[]⟩ : ByteArray)] ?_; intro b2 hg m1 hbox hb; replace a1 := zr a1 hb; have a3 := zA (hbox); have f2 := zi HB hg; have f3 := zi HB hg; replace HB := zA (below_step (zB) hb); clear hb hbox hg; obtain ⟨i6, i7, i8, i9⟩ := ze2 a3.out) | ((with_reducible refine zq 21 ?_); refine zg (some 22) Tryd.func21 #[.slice A1 l1.length c1, .string ((rd_T31 l0 a0).f0)] ?_; (with_reducible refine (impl_GetFile.calls _ _ l1 ((rd_T31 l0 a0).f0) d1 false _ ?s1 ?s2 A6.out).mono ?_); (case s1 => exact Kd.C_below b6.out (zW HB.out)); (case s2 => exact d0.out); rintro e m2 ⟨rfl, hb⟩; refine ⟨_, rfl, ?_⟩; replace a1 := zA (Kd.R_below (zR (zr2 a1.out a3.out)) hb); replace a3 := zA (blk_below (g := b2) (o := .cells #[.string ((rd_T31 l0 a0).f0), .string ((rd_T31 l0 a0).f1)] 31 (0, 0)) (by (with_reducible repeat (first | refine blk_drewN ?_ _ | refine blk_drew ?_ | refine blk_alloc ?_ _)); refine blk_put (cs := #[.string ((rd_T31 l0 a0).f0), .string (⟨#[]⟩ : ByteArray)]) ?_ 1 _ rfl; (with_reducible repeat (first | refine blk_drewN ?_ _ | refine blk_drew ?_ | refine blk_alloc ?_ _)); refine blk_put (cs := #[.string (⟨#[]⟩ : ByteArray), .string (⟨#[]⟩ : ByteArray)]) ?_ 0 _ rfl; (with_reducible repeat (first | refine blk_drewN ?_ _ | refine blk_drew ?_ | refine blk_alloc ?_ _)); exact a3.out) hb); replace HB := zh HB hb; (try clear hb); obtain ⟨j0, j1, j2, j3⟩ := ze2 a3.out) | ((with_reducible refine gate_builtin (b := .append) (xs := #[.tmp 33, .tmp 36]) rfl ?_); at_builtin; refine Kd.R_append Kd.string (w0 := w) w.heap.size rfl (.tmp 33) (.tmp 36) 47 9 (.string ⟨#[]⟩) 16 rfl Tryd.underlying47 info9 rfl (by decide) (by omega) u5 a8 ((rd_T31 l0 a0).f0) [.string ((rd_T31 l0 a0).f0)] (fun _ => True) (fun _ => False) rfl rfl ?aP (fun _ hk => hk.elim) ?aF ?aO ?aB ?aS ?aL ?_; (case aP => exact rfl); (case aB => exact (zW HB.out)); (case aF => exact (fun _ _ => trivial)); (case aO => exact (zR a1.out)); (case aS => exact (below_size (zW HB.out))); (case aL => have := i4.out; omega); intro m3 m4 ho hb hg hat; rw [← i5.out] at ho; replace a3 := zA (blk_grown (g := b2) (o := .cells #[.string ((rd_T31 l0 a0).f0), .string ((rd_T31 l0 a0).f1)] 31 (0, 0)) (zK a3.out) hg (Kd.R_ne a1.out a3.out (by decide))); replace HB := zA (hb); have j4 := zA (ho); clear a1; clear ho hb hg hat))
    go_roundg k1
    case measure => have := a7.out; omega
    case rel => exact ⟨(f5), (wrap64 (a0 + 1)), zS, H', ⟨by have := a7.out; omega⟩, ⟨zR j4.out⟩, ⟨zW HB.out⟩⟩
   have H' := zA H; clear H
   go_wp2
   go_loopg [5, 41] k1 (fun kq v5 j5 w' => ∃ (b1 : List ByteArray) (a2 : Int), j5 = .int .i64 a2 ∧ Aside0 (impl_DiffFiles.l1 kq l0 b1 l1 (l1.length : Int) a2 = some r) ∧ Aside0 (kq ≤ k1) ∧ Aside0 (Kd.R Kd.string 9 w' w.heap.size (fun _ => True) v5 b1) ∧ Aside0 (Below w.heap.size w w'))
   case atStart => exact ⟨(a8), (0), zS, H', ⟨Nat.le_refl _⟩, ⟨zR a1.out⟩, ⟨zB⟩⟩
   case round =>
    clear H'
    try clear c1
    try clear c2
    try clear p2
    try clear c3
    try clear e5
    try clear p3
    try clear q3
    try clear hx3
    try clear c4
    try clear g3
    try clear c5
    try clear g4
    try clear p6
    try clear c7
    try clear c8
    try clear e7
    try clear e8
    try clear d2
    try clear d4
    try clear c21
    try clear g5 g6 g7 g8
    try clear g9 h0 h1 h2
    try clear h5 h6 h7 h8
    try clear h9 i0 i1 i2
    try clear i6 i7 i8 i9
    try clear j0 j1 j2 j3
    try clear a9
    try clear b0
    try clear p2
    try clear a5
    try clear a6
    obtain ⟨b1, a2, rfl, HA, c6, a1, HB⟩ := hrel
    cases gk with
    | zero => exact absurd HA.out (by simp [impl_DiffFiles.l1])
    | succ k2 =>
     have H := HA.out; clear HA; simp only [impl_DiffFiles.l1] at H; replace H := zI0 H
     rcases H with ⟨j6, H⟩ | ⟨j6, H⟩
     ·replace H := zD0 H; obtain ⟨m5, H⟩ := H; replace H := zD0 H; obtain ⟨m6, H⟩ := H; replace H := Option.bind_eq_some_iff.mp H; obtain ⟨f6, f7, H⟩ := H
      try dsimp only at H
      have f8 := zA f7; clear f7; replace H := zI0 H
      rcases H with ⟨j7, H⟩ | ⟨j7, H⟩
      ·replace H := zC0 H; obtain ⟨f9, H⟩ := H; have j8 := zA f9; clear f9; obtain ⟨g0, d6⟩ : ∃ y_ : List ByteArray, y_ = (b1 ++ [(rd_T31 l1 a2).f0]) := ⟨_, rfl⟩; replace H : (impl_DiffFiles.l1 k2 l0 g0 l1 (l1.length : Int) (wrap64 (a2 + 1))) = some r := zY d6 H; have j9 := zA d6; clear d6; have H' := zA H; clear H; have b3 : 0 ≤ (a2 : Int) := zD; have b4 : a2 < (l1.length : Int) := zD; obtain ⟨k0, d7, b8, b9⟩ := at_T31 b6.out a2 b3 b4; cases d7; replace b8 := zx HB b8; replace b9 := zx HB b9; replace b3 := eq_true b3; replace b4 := eq_true b4
       go_wp2_with (first | ((with_reducible refine zd 11 ?_); refine ze 11 31 #[.string (⟨#[]⟩ : ByteArray), .string (⟨#[]⟩ : ByteArray)] ?_; intro c9 hg m7 hbox hb; replace a1 := zr a1 hb; have a4 := zA (hbox); have k3 := zi HB hg; have k4 := zi HB hg; replace HB := zA (below_step (zB) hb); clear hb hbox hg; obtain ⟨m8, m9, n0, n1⟩ := ze2 a4.out) | ((with_reducible refine zq 68 ?_); refine zg (some 48) Tryd.func68 #[.slice A0 l0.length c0, .string ((rd_T31 l1 a2).f0)] ?_; (with_reducible refine (impl_fileAt.calls _ _ l0 ((rd_T31 l1 a2).f0) f6 _ ?s1 ?s2 f8.out).mono ?_); (case s1 => exact Kd.C_below b5.out (zW HB.out)); (case s2 => exact e4.out); rintro e n2 ⟨rfl, hb⟩; refine ⟨_, rfl, ?_⟩; replace a1 := zA (Kd.R_below (zR (zr2 a1.out a4.out)) hb); replace a4 := zA (blk_below (g := c9) (o := .cells #[.string ((rd_T31 l1 a2).f0), .string ((rd_T31 l1 a2).f1)] 31 (0, 0)) (by (with_reducible repeat (first | refine blk_drewN ?_ _ | refine blk_drew ?_ | refine blk_alloc ?_ _)); refine blk_put (cs := #[.string ((rd_T31 l1 a2).f0), .string (⟨#[]⟩ : ByteArray)]) ?_ 1 _ rfl; (with_reducible repeat (first | refine blk_drewN ?_ _ | refine blk_drew ?_ | refine blk_alloc ?_ _)); refine blk_put (cs := #[.string (⟨#[]⟩ : ByteArray), .string (⟨#[]⟩ : ByteArray)]) ?_ 0 _ rfl; (with_reducible repeat (first | refine blk_drewN ?_ _ | refine blk_drew ?_ | refine blk_alloc ?_ _)); exact a4.out) hb); replace HB := zh HB hb; (try clear hb); obtain ⟨n3, n4, n5, n6⟩ := ze2 a4.out) | ((with_reducible refine gate_builtin (b := .append) (xs := #[.tmp 50, .tmp 53]) rfl ?_); at_builtin; refine Kd.R_append Kd.string (w0 := w) w.heap.size rfl (.tmp 50) (.tmp 53) 47 9 (.string ⟨#[]⟩) 16 rfl Tryd.underlying47 info9 rfl (by decide) (by omega) u5 b1 ((rd_T31 l1 a2).f0) [.string ((rd_T31 l1 a2).f0)] (fun _ => True) (fun _ => False) rfl rfl ?aP (fun _ hk => hk.elim) ?aF ?aO ?aB ?aS ?aL ?_; (case aP => exact rfl); (case aB => exact (zW HB.out)); (case aF => exact (fun _ _ => trivial)); (case aO => exact (zR a1.out)); (case aS => exact (below_size (zW HB.out))); (case aL => have := j8.out; omega); intro n7 n8 ho hb hg hat; rw [← j9.out] at ho; replace a4 := zA (blk_grown (g := c9) (o := .cells #[.string ((rd_T31 l1 a2).f0), .string ((rd_T31 l1 a2).f1)] 31 (0, 0)) (zK a4.out) hg (Kd.R_ne a1.out a4.out (by decide))); replace HB := zA (hb); have k5 := zA (ho); clear a1; clear ho hb hg hat))
       go_roundg k2
       case measure => have := a7.out; have := c6.out; omega
       case rel => exact ⟨(g0), (wrap64 (a2 + 1)), zS, H', ⟨by have := a7.out; have := c6.out; omega⟩, ⟨zR k5.out⟩, ⟨zW HB.out⟩⟩
      have H' := zA H; clear H; have b3 : 0 ≤ (a2 : Int) := zD; have b4 : a2 < (l1.length : Int) := zD; obtain ⟨k0, d7, b8, b9⟩ := at_T31 b6.out a2 b3 b4; cases d7; replace b8 := zx HB b8; replace b9 := zx HB b9; replace b3 := eq_true b3; replace b4 := eq_true b4
      go_wp2_with (first | ((with_reducible refine zd 11 ?_); refine ze 11 31 #[.string (⟨#[]⟩ : ByteArray), .string (⟨#[]⟩ : ByteArray)] ?_; intro c9 hg n9 hbox hb; replace a1 := zr a1 hb; have a4 := zA (hbox); have k3 := zi HB hg; have k4 := zi HB hg; replace HB := zA (below_step (zB) hb); clear hb hbox hg; obtain ⟨o0, o1, o2, o3⟩ := ze2 a4.out) | ((with_reducible refine zq 68 ?_); refine zg (some 48) Tryd.func68 #[.slice A0 l0.length c0, .string ((rd_T31 l1 a2).f0)] ?_; (with_reducible refine (impl_fileAt.calls _ _ l0 ((rd_T31 l1 a2).f0) f6 _ ?s1 ?s2 f8.out).mono ?_); (case s1 => exact Kd.C_below b5.out (zW HB.out)); (case s2 => exact e4.out); rintro e o4 ⟨rfl, hb⟩; refine ⟨_, rfl, ?_⟩; replace a1 := zA (Kd.R_below (zR (zr2 a1.out a4.out)) hb); replace a4 := zA (blk_below (g := c9) (o := .cells #[.string ((rd_T31 l1 a2).f0), .string ((rd_T31 l1 a2).f1)] 31 (0, 0)) (by (with_reducible repeat (first | refine blk_drewN ?_ _ | refine blk_drew ?_ | refine blk_alloc ?_ _)); refine blk_put (cs := #[.string ((rd_T31 l1 a2).f0), .string (⟨#[]⟩ : ByteArray)]) ?_ 1 _ rfl; (with_reducible repeat (first | refine blk_drewN ?_ _ | refine blk_drew ?_ | refine blk_alloc ?_ _)); refine blk_put (cs := #[.string (⟨#[]⟩ : ByteArray), .string (⟨#[]⟩ : ByteArray)]) ?_ 0 _ rfl; (with_reducible repeat (first | refine blk_drewN ?_ _ | refine blk_drew ?_ | refine blk_alloc ?_ _)); exact a4.out) hb); replace HB := zh HB hb; (try clear hb)))
      go_roundg k2
      case measure => have := a7.out; have := c6.out; omega
      case rel => exact ⟨(b1), (wrap64 (a2 + 1)), zS, H', ⟨by have := a7.out; have := c6.out; omega⟩, ⟨zR a1.out⟩, ⟨zW HB.out⟩⟩
     replace H := Option.bind_eq_some_iff.mp H; obtain ⟨k6, g1, H⟩ := H
     try dsimp only at H
     have k7 := zA g1; clear g1; obtain rfl := zm H; obtain ⟨k8, k9, l2⟩ := Kd.R_slice a1.out; subst l2
     go_wp2_with (first | ((with_reducible refine zq 44 ?_); refine zg (some 57) Tryd.func44 #[.slice k8 b1.length k9] ?_; (with_reducible refine (impl_Sorted.calls _ _ b1 k6 _ ?s1 ?s2 k7.out).mono ?_); (case s1 => repeat (first | exact (Kd.R_reads' a1.out).2.2 | (with_reducible refine Kd.C_alloc ?_ _) | (with_reducible refine Kd.C_drewN ?_ _) | (with_reducible refine Kd.C_drew ?_))); (case s2 => exact (Kd.R_reads' a1.out).2.1); rintro e o5 ⟨o6, rfl, d8, hb⟩; refine ⟨_, rfl, ?_⟩; have l3 := zA (Kd.R_lower (Kd.R_new' d8 (Kd.R_lt (zR a1.out))) (below_size (zB))); replace a1 := zA (Kd.R_elder' (zR a1.out) (Kd.R_base d8) hb); replace HB := zA (below_step (zB) hb); (try clear hb d8)))
     go_ret
     exact ⟨_, zE, zR (Kd.R_mono l3.out (fun _ hk => trivial)), zB⟩
/-! ### laws_sameFiles: function 32 -/
mutual
def laws_sameFiles.j0 : Nat → List (S31) → List (S31) → Option (Bool)
 | 0, _, _ => none
 | k + 1, x0, x1 => laws_sameFiles.l0 k x0 x1 0
def laws_sameFiles.l0 : Nat → List (S31) → List (S31) → Int → Option (Bool)
 | 0, _, _, _ => none
 | k + 1, x0, x1, x5 => if x5 < (x0.length : Int) then (if 0 ≤ x5 then (if x5 < (x1.length : Int) then (if (!((((rd_T31 x0 x5).f0).toList) == (((rd_T31 x1 x5).f0).toList)) || (!((((rd_T31 x0 x5).f1).toList) == (((rd_T31 x1 x5).f1).toList)))) = true then (some false) else (laws_sameFiles.l0 k x0 x1 (wrap64 (x5 + 1)))) else (none)) else (none)) else (some true)
end
def laws_sameFiles.f (k : Nat) (l0 : List (S31)) (l1 : List (S31)) : Option (Bool) := if (l0.length : Int) = (l1.length : Int) then (laws_sameFiles.j0 k l0 l1) else (some false)
theorem laws_sameFiles.calls (k : Nat) (A0 : Option Addr) (c0 : Nat) (l0 : List (S31)) (A1 : Option Addr) (c1 : Nat) (l1 : List (S31)) (r : Bool) (w : World) (b1 : Kd.C k31 w A0 l0.length l0) (b2 : l0.length ≤ c0) (b3 : Kd.C k31 w A1 l1.length l1) (b4 : l1.length ≤ c1) (h : laws_sameFiles.f k l0 l1 = some r) :
  Calls Tryd.prog 32 #[.slice A0 l0.length c0, .slice A1 l1.length c1] w fun e w' => e = .returned (.bool r) ∧ Drawn0 w w' := by
 have d4 := Tryd.underlying31
 have b5 := zA b1
 have d5 := zA b2
 clear b1 b2
 have b6 := zA b3
 have d6 := zA b4
 clear b3 b4
 unfold laws_sameFiles.f at h
 have H := h
 clear h
 have a6 := zA H
 clear H
 go_enter Tryd.func32, Tryd.ntmps32
 go_upto_if 10 with (fail)
 repeat (go_quiet (fail); go_upto_if 10 with (fail))
 go_cut [] (fun wc => ∃ (kq : Nat), Aside0 (laws_sameFiles.j0 kq l0 l1 = some r) ∧ Aside0 (kq ≤ k) ∧ Drawn0 w wc)
 case first =>
  have H := a6.out; clear a6; replace H := zI1 H
  rcases H with ⟨c4, H⟩ | ⟨c4, H⟩
  ·have a1 := beq_iff_eq.mpr c4; have a7 := bne_eq_false_iff_eq.mpr c4
   have a8 : (l0.length == l1.length) = true := by first | simpa using c4 | (simp at c4 ⊢; omega)
   clear c4
   (first | rw [a1] | (simp only [i64_w, i32_w]; rw [a1]) | skip)
   have H' := zA H; clear H
   go_wp2
   repeat (go_quiet (fail); try go_wp2)
   go_meet
   case rel => exact ⟨_, (by first | exact H' | (subst_vars; exact H')), ⟨by first | omega | exact Nat.le_refl _⟩, by repeat (first | exact Drawn0.refl _ | apply Drawn0.step)⟩
  have a1 := beq_eq_false_iff_ne.mpr c4; have a7 := bne_iff_ne.mpr c4
  have a8 : (l0.length == l1.length) = false := by first | simpa using c4 | (simp at c4 ⊢; omega)
  (first | rw [a1] | (simp only [i64_w, i32_w]; rw [a1]) | skip)
  obtain rfl := zm H
  go_wp2
  repeat (go_quiet (fail); try go_wp2)
  go_ret
  exact ⟨by first | rfl | (simp; done) | (simp [*]; done) | (simp; rw [Bool.eq_iff_iff]; simp; done), by repeat (first | exact Drawn0.refl _ | apply Drawn0.step)⟩
 case rest =>
  clear a6
  try clear c1
  try clear p2
  try clear c3
  try clear c4
  try clear a1
  try clear a7
  try clear a8
  obtain ⟨kq, HA, b7, ⟨d7, rfl⟩⟩ := hcut
  cases kq with
  | zero => exact absurd HA.out (by simp [laws_sameFiles.j0])
  | succ b8 =>
   have H := HA.out; clear HA; simp only [laws_sameFiles.j0] at H; have H' := zA H; clear H
   go_wp2
   repeat (go_quiet (fail); try go_wp2)
   go_loopg [5] b8 (fun kq v5 w' => ∃ (a0 : Int), v5 = .int .i64 a0 ∧ Aside0 (laws_sameFiles.l0 kq l0 l1 a0 = some r) ∧ Aside0 (kq ≤ b8) ∧ Drawn0 w w')
   case atStart => exact ⟨(0), zS, H', ⟨Nat.le_refl _⟩, by repeat (first | exact Drawn0.refl _ | apply Drawn0.step)⟩
   case round =>
    clear H'
    try clear c1
    try clear c2
    try clear p2
    try clear c3
    try clear c4
    try clear a1
    try clear a7
    try clear a8
    try clear p2
    obtain ⟨a0, rfl, HA, b9, ⟨m2, rfl⟩⟩ := hrel
    cases gk with
    | zero => exact absurd HA.out (by simp [laws_sameFiles.l0])
    | succ k2 =>
     have H := HA.out; clear HA; simp only [laws_sameFiles.l0] at H; replace H := zI0 H
     rcases H with ⟨c5, H⟩ | ⟨c5, H⟩
     ·replace H := zD0 H; obtain ⟨d8, H⟩ := H; replace H := zD0 H; obtain ⟨d9, H⟩ := H; replace H := zI1 H
      rcases H with ⟨c8, H⟩ | ⟨c8, H⟩
      ·have c6 : (!((((rd_T31 l0 a0).f0).toList) == (((rd_T31 l1 a0).f0).toList)) || (!((((rd_T31 l0 a0).f1).toList) == (((rd_T31 l1 a0).f1).toList)))) = true := c8; clear c8; obtain rfl := zm H; have a2 : 0 ≤ (a0 : Int) := zD; have a3 : a0 < (l0.length : Int) := zD; obtain ⟨c7, a9, c9, d0⟩ := at_T31 b5.out a0 a2 a3; cases a9; replace a2 := eq_true a2; replace a3 := eq_true a3; have a4 : 0 ≤ (a0 : Int) := zD; have a5 : a0 < (l1.length : Int) := zD; obtain ⟨d1, b0, d2, d3⟩ := at_T31 b6.out a0 a4 a5; cases b0; replace a4 := eq_true a4; replace a5 := eq_true a5
       go_wp2
       repeat (go_quiet (fail); try go_wp2)
       go_ret
       exact ⟨by first | rfl | (simp; done) | (simp [*]; done) | (simp; rw [Bool.eq_iff_iff]; simp; done), by repeat (first | exact Drawn0.refl _ | apply Drawn0.step)⟩
      have c6 : (!((((rd_T31 l0 a0).f0).toList) == (((rd_T31 l1 a0).f0).toList)) || (!((((rd_T31 l0 a0).f1).toList) == (((rd_T31 l1 a0).f1).toList)))) = false := by simpa using c8
      clear c8; have H' := zA H; clear H; have a2 : 0 ≤ (a0 : Int) := zD; have a3 : a0 < (l0.length : Int) := zD; obtain ⟨c7, a9, c9, d0⟩ := at_T31 b5.out a0 a2 a3; cases a9; replace a2 := eq_true a2; replace a3 := eq_true a3; have a4 : 0 ≤ (a0 : Int) := zD; have a5 : a0 < (l1.length : Int) := zD; obtain ⟨d1, b0, d2, d3⟩ := at_T31 b6.out a0 a4 a5; cases b0; replace a4 := eq_true a4; replace a5 := eq_true a5
      go_wp2
      repeat (go_quiet (fail); try go_wp2)
      go_roundg k2
      case measure => have := b7.out; have := b9.out; omega
      case rel => exact ⟨(wrap64 (a0 + 1)), zS, H', ⟨by have := b7.out; have := b9.out; omega⟩, by repeat (first | exact Drawn0.refl _ | apply Drawn0.step)⟩
     obtain rfl := zm H
     go_wp2
     repeat (go_quiet (fail); try go_wp2)
     go_ret
     exact ⟨by first | rfl | (simp; done) | (simp [*]; done) | (simp; rw [Bool.eq_iff_iff]; simp; done), by repeat (first | exact Drawn0.refl _ | apply Drawn0.step)⟩
end Go.Proofs.YtbaeljcnbkeipaaDoor.PGA
namespace Go.Proofs.YtbaeljcnbkeipaaDoor.PGA
open Go.RowKit YtbaeljcnbkeipaaDoorW.PrintWords YtbaeljcnbkeipaaDoorW.PrintLast YtbaeljcnbkeipaaDoorW.PrintMore
attribute [local go_sem high] Mine.str_gtr Mine.str_leq Mine.str_geq
attribute [local go_sem] max2_int min2_int max_two min_two max_three min_three max_four min_four   -- for this text's walks alone
set_option linter.unusedVariables false
set_option maxHeartbeats 8000000
set_option maxRecDepth 100000
set_option linter.unusedSimpArgs false
/-! ### laws_sameTexts: function 33 -/
mutual
def laws_sameTexts.j0 : Nat → List ByteArray → List ByteArray → Option (Bool)
 | 0, _, _ => none
 | k + 1, x0, x1 => laws_sameTexts.l0 k x0 x1 0
def laws_sameTexts.l0 : Nat → List ByteArray → List ByteArray → Int → Option (Bool)
 | 0, _, _, _ => none
 | k + 1, x0, x1, x5 => if x5 < (x0.length : Int) then (if 0 ≤ x5 then (if x5 < (x1.length : Int) then (if (rdOf ByteArray.empty x0 x5).toList = (rdOf ByteArray.empty x1 x5).toList then (laws_sameTexts.l0 k x0 x1 (wrap64 (x5 + 1))) else (some false)) else (none)) else (none)) else (some true)
end
def laws_sameTexts.f (k : Nat) (l0 l1 : List ByteArray) : Option (Bool) := if (l0.length : Int) = (l1.length : Int) then (laws_sameTexts.j0 k l0 l1) else (some false)
theorem laws_sameTexts.calls (k : Nat) (A0 : Option Addr) (c0 : Nat) (l0 : List ByteArray) (A1 : Option Addr) (c1 : Nat) (l1 : List ByteArray) (r : Bool) (w : World) (b1 : Kd.C Kd.string w A0 l0.length l0) (b2 : l0.length ≤ c0) (b3 : Kd.C Kd.string w A1 l1.length l1) (b4 : l1.length ≤ c1) (h : laws_sameTexts.f k l0 l1 = some r) :
  Calls Tryd.prog 33 #[.slice A0 l0.length c0, .slice A1 l1.length c1] w fun e w' => e = .returned (.bool r) ∧ Drawn0 w w' := by
 have b5 := zA b1
 have d3 := zA b2
 clear b1 b2
 have b6 := zA b3
 have d4 := zA b4
 clear b3 b4
 unfold laws_sameTexts.f at h
 have H := h
 clear h
 have a6 := zA H
 clear H
 go_enter Tryd.func33, Tryd.ntmps33
 go_upto_if 10 with (fail)
 repeat (go_quiet (fail); go_upto_if 10 with (fail))
 go_cut [] (fun wc => ∃ (kq : Nat), Aside0 (laws_sameTexts.j0 kq l0 l1 = some r) ∧ Aside0 (kq ≤ k) ∧ Drawn0 w wc)
 case first =>
  have H := a6.out; clear a6; replace H := zI1 H
  rcases H with ⟨c4, H⟩ | ⟨c4, H⟩
  ·have a1 := beq_iff_eq.mpr c4; have a7 := bne_eq_false_iff_eq.mpr c4
   have a8 : (l0.length == l1.length) = true := by first | simpa using c4 | (simp at c4 ⊢; omega)
   clear c4
   (first | rw [a1] | (simp only [i64_w, i32_w]; rw [a1]) | skip)
   have H' := zA H; clear H
   go_wp2
   repeat (go_quiet (fail); try go_wp2)
   go_meet
   case rel => exact ⟨_, (by first | exact H' | (subst_vars; exact H')), ⟨by first | omega | exact Nat.le_refl _⟩, by repeat (first | exact Drawn0.refl _ | apply Drawn0.step)⟩
  have a1 := beq_eq_false_iff_ne.mpr c4; have a7 := bne_iff_ne.mpr c4
  have a8 : (l0.length == l1.length) = false := by first | simpa using c4 | (simp at c4 ⊢; omega)
  (first | rw [a1] | (simp only [i64_w, i32_w]; rw [a1]) | skip)
  obtain rfl := zm H
  go_wp2
  repeat (go_quiet (fail); try go_wp2)
  go_ret
  exact ⟨by first | rfl | (simp; done) | (simp [*]; done) | (simp; rw [Bool.eq_iff_iff]; simp; done), by repeat (first | exact Drawn0.refl _ | apply Drawn0.step)⟩
 case rest =>
  clear a6
  try clear c1
  try clear p2
  try clear c3
  try clear c4
  try clear a1
  try clear a7
  try clear a8
  obtain ⟨kq, HA, b7, ⟨d5, rfl⟩⟩ := hcut
  cases kq with
  | zero => exact absurd HA.out (by simp [laws_sameTexts.j0])
  | succ b8 =>
   have H := HA.out; clear HA; simp only [laws_sameTexts.j0] at H; have H' := zA H; clear H
   go_wp2
   repeat (go_quiet (fail); try go_wp2)
   go_loopg [5] b8 (fun kq v5 w' => ∃ (a0 : Int), v5 = .int .i64 a0 ∧ Aside0 (laws_sameTexts.l0 kq l0 l1 a0 = some r) ∧ Aside0 (kq ≤ b8) ∧ Drawn0 w w')
   case atStart => exact ⟨(0), zS, H', ⟨Nat.le_refl _⟩, by repeat (first | exact Drawn0.refl _ | apply Drawn0.step)⟩
   case round =>
    clear H'
    try clear c1
    try clear c2
    try clear p2
    try clear c3
    try clear c4
    try clear a1
    try clear a7
    try clear a8
    try clear p2
    obtain ⟨a0, rfl, HA, b9, ⟨m2, rfl⟩⟩ := hrel
    cases gk with
    | zero => exact absurd HA.out (by simp [laws_sameTexts.l0])
    | succ k2 =>
     have H := HA.out; clear HA; simp only [laws_sameTexts.l0] at H; replace H := zI0 H
     rcases H with ⟨c5, H⟩ | ⟨c5, H⟩
     ·replace H := zD0 H; obtain ⟨d6, H⟩ := H; replace H := zD0 H; obtain ⟨d7, H⟩ := H; replace H := zI1 H
      rcases H with ⟨c8, H⟩ | ⟨c8, H⟩
      ·have c6 := beq_iff_eq.mpr c8; have c7 := bne_eq_false_iff_eq.mpr c8; clear c8; have H' := zA H; clear H; have a2 : 0 ≤ (a0 : Int) := zD; have a3 : a0 < (l0.length : Int) := zD; obtain ⟨c9, a9, d0⟩ := Kd.at_string b5.out a0 a2 a3; cases a9; replace a2 := eq_true a2; replace a3 := eq_true a3; have a4 : 0 ≤ (a0 : Int) := zD; have a5 : a0 < (l1.length : Int) := zD; obtain ⟨d1, b0, d2⟩ := Kd.at_string b6.out a0 a4 a5; cases b0; replace a4 := eq_true a4; replace a5 := eq_true a5
       go_wp2
       repeat (go_quiet (fail); try go_wp2)
       go_roundg k2
       case measure => have := b7.out; have := b9.out; omega
       case rel => exact ⟨(wrap64 (a0 + 1)), zS, H', ⟨by have := b7.out; have := b9.out; omega⟩, by repeat (first | exact Drawn0.refl _ | apply Drawn0.step)⟩
      have c6 := beq_eq_false_iff_ne.mpr c8; have c7 := bne_iff_ne.mpr c8; obtain rfl := zm H; have a2 : 0 ≤ (a0 : Int) := zD; have a3 : a0 < (l0.length : Int) := zD; obtain ⟨c9, a9, d0⟩ := Kd.at_string b5.out a0 a2 a3; cases a9; replace a2 := eq_true a2; replace a3 := eq_true a3; have a4 : 0 ≤ (a0 : Int) := zD; have a5 : a0 < (l1.length : Int) := zD; obtain ⟨d1, b0, d2⟩ := Kd.at_string b6.out a0 a4 a5; cases b0; replace a4 := eq_true a4; replace a5 := eq_true a5
      go_wp2
      repeat (go_quiet (fail); try go_wp2)
      go_ret
      exact ⟨by first | rfl | (simp; done) | (simp [*]; done) | (simp; rw [Bool.eq_iff_iff]; simp; done), by repeat (first | exact Drawn0.refl _ | apply Drawn0.step)⟩
     obtain rfl := zm H
     go_wp2
     repeat (go_quiet (fail); try go_wp2)
     go_ret
     exact ⟨by first | rfl | (simp; done) | (simp [*]; done) | (simp; rw [Bool.eq_iff_iff]; simp; done), by repeat (first | exact Drawn0.refl _ | apply Drawn0.step)⟩
/-! ### spec_l1Has: function 109 -/
def spec_l1Has.l0 : Nat → List ByteArray → ByteArray → Int → Option (Bool)
 | 0, _, _, _ => none
 | k + 1, x0, x1, x5 => if x5 < (x0.length : Int) then (if 0 ≤ x5 then (if (rdOf ByteArray.empty x0 x5).toList = x1.toList then (some true) else (spec_l1Has.l0 k x0 x1 (wrap64 (x5 + 1)))) else (none)) else (some false)
def spec_l1Has.f (k : Nat) (l0 : List ByteArray) (a1 : ByteArray) : Option (Bool) := spec_l1Has.l0 k l0 a1 0
theorem spec_l1Has.calls (k : Nat) (A0 : Option Addr) (c0 : Nat) (l0 : List ByteArray) (a1 : ByteArray) (r : Bool) (w : World) (a5 : Kd.C Kd.string w A0 l0.length l0) (a6 : l0.length ≤ c0) (h : spec_l1Has.f k l0 a1 = some r) :
  Calls Tryd.prog 109 #[.slice A0 l0.length c0, .string a1] w fun e w' => e = .returned (.bool r) ∧ Drawn0 w w' := by
 have a7 := zA a5
 have b4 := zA a6
 clear a5 a6
 unfold spec_l1Has.f at h
 have H := h
 clear h
 have H' := zA H
 clear H
 go_enter Tryd.func109, Tryd.ntmps109
 go_wp2
 go_loopg [5] k (fun kq v5 w' => ∃ (a0 : Int), v5 = .int .i64 a0 ∧ Aside0 (spec_l1Has.l0 kq l0 a1 a0 = some r) ∧ Aside0 (kq ≤ k) ∧ Drawn0 w w')
 case atStart => exact ⟨(0), zS, H', ⟨Nat.le_refl _⟩, by repeat (first | exact Drawn0.refl _ | apply Drawn0.step)⟩
 case round =>
  clear H'
  try clear c1
  try clear p2
  obtain ⟨a0, rfl, HA, a8, ⟨m1, rfl⟩⟩ := hrel
  cases gk with
  | zero => exact absurd HA.out (by simp [spec_l1Has.l0])
  | succ k1 =>
   have H := HA.out; clear HA; simp only [spec_l1Has.l0] at H; replace H := zI0 H
   rcases H with ⟨a9, H⟩ | ⟨a9, H⟩
   ·replace H := zD0 H; obtain ⟨b5, H⟩ := H; replace H := zI1 H
    rcases H with ⟨c5, H⟩ | ⟨c5, H⟩
    ·have b0 := beq_iff_eq.mpr c5; have b1 := bne_eq_false_iff_eq.mpr c5; clear c5; obtain rfl := zm H; have a2 : 0 ≤ (a0 : Int) := zD; have a3 : a0 < (l0.length : Int) := zD; obtain ⟨b2, a4, b3⟩ := Kd.at_string a7.out a0 a2 a3; cases a4; replace a2 := eq_true a2; replace a3 := eq_true a3
     go_wp2
     go_ret
     exact ⟨by first | rfl | (simp; done) | (simp [*]; done) | (simp; rw [Bool.eq_iff_iff]; simp; done), by repeat (first | exact Drawn0.refl _ | apply Drawn0.step)⟩
    have b0 := beq_eq_false_iff_ne.mpr c5; have b1 := bne_iff_ne.mpr c5; have H' := zA H; clear H; have a2 : 0 ≤ (a0 : Int) := zD; have a3 : a0 < (l0.length : Int) := zD; obtain ⟨b2, a4, b3⟩ := Kd.at_string a7.out a0 a2 a3; cases a4; replace a2 := eq_true a2; replace a3 := eq_true a3
    go_wp2
    go_roundg k1
    case measure => have := a8.out; omega
    case rel => exact ⟨(wrap64 (a0 + 1)), zS, H', ⟨by have := a8.out; omega⟩, by repeat (first | exact Drawn0.refl _ | apply Drawn0.step)⟩
   obtain rfl := zm H
   go_wp2
   go_ret
   exact ⟨by first | rfl | (simp; done) | (simp [*]; done) | (simp; rw [Bool.eq_iff_iff]; simp; done), by repeat (first | exact Drawn0.refl _ | apply Drawn0.step)⟩
/-! ### spec_Sorted: function 77 -/
mutual
def spec_Sorted.l0 : Nat → List ByteArray → List ByteArray → Int → Option (List ByteArray)
 | 0, _, _, _ => none
 | k + 1, x0, x3, x4 => if x4 < (x0.length : Int) then (spec_Sorted.j1 k x0 x3 x4) else (some x3)
def spec_Sorted.j1 : Nat → List ByteArray → List ByteArray → Int → Option (List ByteArray)
 | 0, _, _, _ => none
 | k + 1, x0, x3, x4 => if 0 ≤ x4 then (if x4 < (x0.length : Int) then ((spec_l1Has.f k x3 (rdOf ByteArray.empty x0 x4)).bind fun a1 => (if a1 = true then (spec_Sorted.l0 k x0 x3 (wrap64 (x4 + 1))) else (spec_Sorted.j2 k x0 x3 x4))) else (none)) else (none)
def spec_Sorted.j2 : Nat → List ByteArray → List ByteArray → Int → Option (List ByteArray)
 | 0, _, _, _ => none
 | k + 1, x0, x3, x4 => if 0 ≤ x4 then (if x4 < (x0.length : Int) then (if x3.length < 8796093022208 then ((some (x3 ++ [rdOf ByteArray.empty x0 x4] : List ByteArray)).bind fun a0 => (spec_Sorted.l1 k x0 a0 x4 (wrap64 ((a0.length : Int) - 1)))) else (none)) else (none)) else (none)
def spec_Sorted.l1 : Nat → List ByteArray → List ByteArray → Int → Int → Option (List ByteArray)
 | 0, _, _, _, _ => none
 | k + 1, x0, x3, x4, x5 => if x5 > 0 then (if 0 ≤ (wrap64 (x5 - 1)) then (if (wrap64 (x5 - 1)) < (x3.length : Int) then (if 0 ≤ x4 then (if x4 < (x0.length : Int) then (if (Op.bytesLess ((rdOf ByteArray.empty x0 x4).toList) ((rdOf ByteArray.empty x3 (wrap64 (x5 - 1))).toList)) = true then (if 0 ≤ x5 then (if x5 < (x3.length : Int) then (spec_Sorted.l1 k x0 (x3.set (x5 : Int).toNat (rdOf ByteArray.empty x3 (wrap64 (x5 - 1)))) x4 (wrap64 (x5 - 1))) else (none)) else (none)) else (if 0 ≤ x5 then (if x5 < (x3.length : Int) then (spec_Sorted.l0 k x0 (x3.set (x5 : Int).toNat (rdOf ByteArray.empty x0 x4)) (wrap64 (x4 + 1))) else (none)) else (none))) else (none)) else (none)) else (none)) else (none)) else (if 0 ≤ x4 then (if x4 < (x0.length : Int) then (if 0 ≤ x5 then (if x5 < (x3.length : Int) then (spec_Sorted.l0 k x0 (x3.set (x5 : Int).toNat (rdOf ByteArray.empty x0 x4)) (wrap64 (x4 + 1))) else (none)) else (none)) else (none)) else (none))
end
def spec_Sorted.f (k : Nat) (l0 : List ByteArray) : Option (List ByteArray) := spec_Sorted.l0 k l0 (([] : List ByteArray)) 0
theorem spec_Sorted.calls (k : Nat) (A0 : Option Addr) (c0 : Nat) (l0 r : List ByteArray) (w : World) (j0 : Kd.C Kd.string w A0 l0.length l0) (j3 : l0.length ≤ c0) (h : spec_Sorted.f k l0 = some r) :
  Calls Tryd.prog 77 #[.slice A0 l0.length c0] w fun e w' => ∃ j4 : Value, e = .returned (j4) ∧ Kd.R Kd.string 9 w' w.heap.size (fun _ => True) j4 r ∧ Below w.heap.size w w' := by
 have d0 := zA j0
 have n6 := zA j3
 clear j0 j3
 have HB := zA (Below.refl w.heap.size w)
 unfold spec_Sorted.f at h
 have H := h
 clear h
 obtain ⟨j5, f9⟩ : ∃ y_ : List ByteArray, y_ = (([] : List ByteArray)) := ⟨_, rfl⟩
 replace H : (spec_Sorted.l0 k l0 j5 0) = some r := zY f9 H
 have d1 := zA f9
 clear f9
 have H' := zA H
 clear H
 go_enter Tryd.func77, Tryd.ntmps77
 go_wp2_with (first | ((with_reducible refine gate_dst (N := 6) rfl ?_); refine Kd.R_lit Kd.string _ 9 ?hg (N := 6) ?hd (xs := ([] : List ByteArray)) (inner := []) (ok := fun _ => True) ?hr ?hp (fun _ hk => hk) trivial (Below.refl _ _) (Nat.le_refl _) (by simp) ?_; (case hd => rfl); (case hg => rfl); (case hr => first | (go_simp; done) | (go_simp; rfl)); (case hp => exact (Reps.none _ _)); intro j6 w2 a6 hb hg_ hnew_; clear hg_ hnew_; (first | rw [← d1.out] at a6 | (simp only [Int.reduceToNat] at a6; rw [← d1.out] at a6)); have g0 := zA (Kd.R_lower a6 (below_size (zB))); replace HB := zA (below_step (zB) hb); clear hb a6))
 repeat (go_quiet (first | ((with_reducible refine gate_dst (N := 6) rfl ?_); refine Kd.R_lit Kd.string _ 9 ?hg (N := 6) ?hd (xs := ([] : List ByteArray)) (inner := []) (ok := fun _ => True) ?hr ?hp (fun _ hk => hk) trivial (Below.refl _ _) (Nat.le_refl _) (by simp) ?_; (case hd => rfl); (case hg => rfl); (case hr => first | (go_simp; done) | (go_simp; rfl)); (case hp => exact (Reps.none _ _)); intro j6 w2 a6 hb hg_ hnew_; clear hg_ hnew_; (first | rw [← d1.out] at a6 | (simp only [Int.reduceToNat] at a6; rw [← d1.out] at a6)); have g0 := zA (Kd.R_lower a6 (below_size (zB))); replace HB := zA (below_step (zB) hb); clear hb a6)); try go_wp2_with (first | ((with_reducible refine gate_dst (N := 6) rfl ?_); refine Kd.R_lit Kd.string _ 9 ?hg (N := 6) ?hd (xs := ([] : List ByteArray)) (inner := []) (ok := fun _ => True) ?hr ?hp (fun _ hk => hk) trivial (Below.refl _ _) (Nat.le_refl _) (by simp) ?_; (case hd => rfl); (case hg => rfl); (case hr => first | (go_simp; done) | (go_simp; rfl)); (case hp => exact (Reps.none _ _)); intro j6 w2 a6 hb hg_ hnew_; clear hg_ hnew_; (first | rw [← d1.out] at a6 | (simp only [Int.reduceToNat] at a6; rw [← d1.out] at a6)); have g0 := zA (Kd.R_lower a6 (below_size (zB))); replace HB := zA (below_step (zB) hb); clear hb a6)))
 go_loopg [3, 4] k (fun kq v3 v4 w' => ∃ (a5 : List ByteArray) (a1 : Int), v4 = .int .i64 a1 ∧ Aside0 (spec_Sorted.l0 kq l0 a5 a1 = some r) ∧ Aside0 (kq ≤ k) ∧ Aside0 (Kd.R Kd.string 9 w' w.heap.size (fun _ => True) v3 a5) ∧ Aside0 (Below w.heap.size w w'))
 case atStart => exact ⟨(j5), (0), zS, H', ⟨Nat.le_refl _⟩, ⟨zR g0.out⟩, ⟨zB⟩⟩
 case round =>
  clear H'
  try clear p2
  obtain ⟨a5, a1, rfl, HA, b4, a0, HB⟩ := hrel
  cases gk with
  | zero => exact absurd HA.out (by simp [spec_Sorted.l0])
  | succ k1 =>
   have H := HA.out; clear HA; simp only [spec_Sorted.l0] at H; have g1 := zA H; clear H
   go_upto_if 10 with (fail)
   repeat (go_quiet (fail); go_upto_if 10 with (fail))
   go_cut [] (fun wc => ∃ (kq : Nat), Aside0 (spec_Sorted.j1 kq l0 a5 a1 = some r) ∧ Aside0 (kq ≤ k1) ∧ Aside0 (Kd.R Kd.string 9 wc w.heap.size (fun _ => True) u3 a5) ∧ Aside0 (Below w.heap.size w wc))
   case first =>
    have H := g1.out; clear g1; replace H := zI0 H
    rcases H with ⟨b9, H⟩ | ⟨b9, H⟩
    ·(first | rw [b9] | (simp only [i64_w, i32_w]; rw [b9]) | skip)
     have H' := zA H; clear H
     go_wp2
     repeat (go_quiet (fail); try go_wp2)
     go_meet
     case rel => exact ⟨_, (by first | exact H' | (subst_vars; exact H')), ⟨by have := b4.out; first | omega | exact Nat.le_refl _⟩, ⟨zR a0.out⟩, ⟨zB⟩⟩
    (first | rw [b9] | (simp only [i64_w, i32_w]; rw [b9]) | skip)
    obtain rfl := zm H
    go_wp2
    repeat (go_quiet (fail); try go_wp2)
    go_ret
    exact ⟨_, zE, zR a0.out, zB⟩
   case rest =>
    clear g1
    try clear p2
    try clear c5
    try clear b9
    try clear p2
    obtain ⟨kq, HA, b5, a0, HB⟩ := hcut
    cases kq with
    | zero => exact absurd HA.out (by simp [spec_Sorted.j1])
    | succ d5 =>
     have H := HA.out; clear HA; simp only [spec_Sorted.j1] at H; replace H := zD0 H; obtain ⟨j7, H⟩ := H; replace H := zD0 H; obtain ⟨j8, H⟩ := H; replace H := Option.bind_eq_some_iff.mp H; obtain ⟨g2, j9, H⟩ := H
     try dsimp only at H
     have A8 := zA j9; clear j9; have g3 := zA H; clear H; have d6 : 0 ≤ (a1 : Int) := zD; have d7 : a1 < (l0.length : Int) := zD; obtain ⟨d8, l8, f0⟩ := Kd.at_string d0.out a1 d6 d7; cases l8; replace f0 := zx HB f0; replace d6 := eq_true d6; replace d7 := eq_true d7; obtain ⟨f1, f2, l9⟩ := Kd.R_slice a0.out; subst l9
     go_upto_if 18 with (first | (go_at_call 109; (with_reducible refine (spec_l1Has.calls d5 _ _ a5 (rdOf ByteArray.empty l0 a1) g2 _ ?s1 ?s2 A8.out).mono ?_); (case s1 => repeat (first | exact (Kd.R_reads' a0.out).2.2 | (with_reducible refine Kd.C_alloc ?_ _) | (with_reducible refine Kd.C_drewN ?_ _) | (with_reducible refine Kd.C_drew ?_))); (case s2 => exact (Kd.R_reads' a0.out).2.1); rintro e w' ⟨rfl, ⟨nd, rfl⟩⟩; (try first | exact ⟨rfl, _, World.drewN_drewN _ _ _⟩ | exact ⟨rfl, _, Eq.trans (World.drewN_drewN _ _ _) (congrArg (World.drewN _) (Nat.add_assoc _ _ _))⟩)))
     repeat (go_quiet (first | (go_at_call 109; (with_reducible refine (spec_l1Has.calls d5 _ _ a5 (rdOf ByteArray.empty l0 a1) g2 _ ?s1 ?s2 A8.out).mono ?_); (case s1 => repeat (first | exact (Kd.R_reads' a0.out).2.2 | (with_reducible refine Kd.C_alloc ?_ _) | (with_reducible refine Kd.C_drewN ?_ _) | (with_reducible refine Kd.C_drew ?_))); (case s2 => exact (Kd.R_reads' a0.out).2.1); rintro e w' ⟨rfl, ⟨nd, rfl⟩⟩; (try first | exact ⟨rfl, _, World.drewN_drewN _ _ _⟩ | exact ⟨rfl, _, Eq.trans (World.drewN_drewN _ _ _) (congrArg (World.drewN _) (Nat.add_assoc _ _ _))⟩))); go_upto_if 18 with (first | (go_at_call 109; (with_reducible refine (spec_l1Has.calls d5 _ _ a5 (rdOf ByteArray.empty l0 a1) g2 _ ?s1 ?s2 A8.out).mono ?_); (case s1 => repeat (first | exact (Kd.R_reads' a0.out).2.2 | (with_reducible refine Kd.C_alloc ?_ _) | (with_reducible refine Kd.C_drewN ?_ _) | (with_reducible refine Kd.C_drew ?_))); (case s2 => exact (Kd.R_reads' a0.out).2.1); rintro e w' ⟨rfl, ⟨nd, rfl⟩⟩; (try first | exact ⟨rfl, _, World.drewN_drewN _ _ _⟩ | exact ⟨rfl, _, Eq.trans (World.drewN_drewN _ _ _) (congrArg (World.drewN _) (Nat.add_assoc _ _ _))⟩))))
     (try simp only [Act.put, zT])
     go_cut [] (fun wc => ∃ (kq : Nat), Aside0 (spec_Sorted.j2 kq l0 a5 a1 = some r) ∧ Aside0 (kq ≤ d5) ∧ Aside0 (Kd.R Kd.string 9 wc w.heap.size (fun _ => True) (.slice f1 a5.length f2) a5) ∧ Aside0 (Below w.heap.size w wc))
     case first =>
      have H := g3.out; clear g3; replace H := zB0 H
      rcases H with ⟨rfl, H⟩ | ⟨rfl, H⟩
      ·have H' := zA H; clear H
       go_wp2
       repeat (go_quiet (fail); try go_wp2)
       go_roundg d5
       case measure => have := b4.out; have := b5.out; omega
       case rel => exact ⟨(a5), (wrap64 (a1 + 1)), zS, H', ⟨by have := b4.out; have := b5.out; omega⟩, ⟨zR a0.out⟩, ⟨zB⟩⟩
      have H' := zA H; clear H
      go_wp2
      repeat (go_quiet (fail); try go_wp2)
      go_meet
      case rel => exact ⟨_, (by first | exact H' | (subst_vars; exact H')), ⟨by have := b4.out; have := b5.out; first | omega | exact Nat.le_refl _⟩, ⟨zR a0.out⟩, ⟨zB⟩⟩
     case rest =>
      clear g3
      try clear c1
      try clear p2
      try clear p3
      try clear q3
      try clear hx3
      try clear c5
      try clear b9
      try clear c6
      try clear j7
      try clear p6
      try clear c7
      try clear j8
      try clear c11
      try clear f0
      try clear p2
      try clear d6
      try clear d7
      obtain ⟨kq, HA, d2, a0, HB⟩ := hcut
      cases kq with
      | zero => exact absurd HA.out (by simp [spec_Sorted.j2])
      | succ g4 =>
       have H := HA.out; clear HA; simp only [spec_Sorted.j2] at H; replace H := zD0 H; obtain ⟨m0, H⟩ := H; replace H := zD0 H; obtain ⟨m1, H⟩ := H; replace H := zC0 H; obtain ⟨g5, H⟩ := H; have g6 := zA g5; clear g5; obtain ⟨d9, g7⟩ : ∃ y_ : List ByteArray, y_ = (a5 ++ [rdOf ByteArray.empty l0 a1]) := ⟨_, rfl⟩; replace H : (spec_Sorted.l1 g4 l0 d9 a1 (wrap64 ((d9.length : Int) - 1))) = some r := zY g7 H; have g8 := zA g7; clear g7; have H' := zA H; clear H; have f3 : 0 ≤ (a1 : Int) := zD; have f4 : a1 < (l0.length : Int) := zD; obtain ⟨m2, m3, g9⟩ := Kd.at_string d0.out a1 f3 f4; obtain rfl : d8 = m2 := (by injection m3); replace g9 := zx HB g9; replace f3 := eq_true f3; replace f4 := eq_true f4
       go_wp2_with (first | ((with_reducible refine gate_builtin (b := .append) (xs := #[.tmp 19, .tmp 24]) rfl ?_); at_builtin; refine Kd.R_append Kd.string (w0 := w) w.heap.size rfl (.tmp 19) (.tmp 24) 47 9 (.string ⟨#[]⟩) 16 rfl Tryd.underlying47 info9 rfl (by decide) (by omega) (.slice f1 a5.length f2) a5 (rdOf ByteArray.empty l0 a1) [.string (rdOf ByteArray.empty l0 a1)] (fun _ => True) (fun _ => False) rfl rfl ?aP (fun _ hk => hk.elim) ?aF ?aO ?aB ?aS ?aL ?_; (case aP => exact rfl); (case aB => exact (zB)); (case aF => exact (fun _ _ => trivial)); (case aO => exact (zR a0.out)); (case aS => exact (below_size (zB))); (case aL => have := g6.out; omega); intro k0 k2 ho hb hg hat; rw [← g8.out] at ho; replace HB := zA (hb); have d3 := zA (ho); clear a0; clear ho hb hg hat; obtain ⟨h0, b0, e0⟩ := Kd.R_slice d3.out; subst e0))
       repeat (go_quiet (first | ((with_reducible refine gate_builtin (b := .append) (xs := #[.tmp 19, .tmp 24]) rfl ?_); at_builtin; refine Kd.R_append Kd.string (w0 := w) w.heap.size rfl (.tmp 19) (.tmp 24) 47 9 (.string ⟨#[]⟩) 16 rfl Tryd.underlying47 info9 rfl (by decide) (by omega) (.slice f1 a5.length f2) a5 (rdOf ByteArray.empty l0 a1) [.string (rdOf ByteArray.empty l0 a1)] (fun _ => True) (fun _ => False) rfl rfl ?aP (fun _ hk => hk.elim) ?aF ?aO ?aB ?aS ?aL ?_; (case aP => exact rfl); (case aB => exact (zB)); (case aF => exact (fun _ _ => trivial)); (case aO => exact (zR a0.out)); (case aS => exact (below_size (zB))); (case aL => have := g6.out; omega); intro k0 k2 ho hb hg hat; rw [← g8.out] at ho; replace HB := zA (hb); have d3 := zA (ho); clear a0; clear ho hb hg hat; obtain ⟨h0, b0, e0⟩ := Kd.R_slice d3.out; subst e0)); try go_wp2_with (first | ((with_reducible refine gate_builtin (b := .append) (xs := #[.tmp 19, .tmp 24]) rfl ?_); at_builtin; refine Kd.R_append Kd.string (w0 := w) w.heap.size rfl (.tmp 19) (.tmp 24) 47 9 (.string ⟨#[]⟩) 16 rfl Tryd.underlying47 info9 rfl (by decide) (by omega) (.slice f1 a5.length f2) a5 (rdOf ByteArray.empty l0 a1) [.string (rdOf ByteArray.empty l0 a1)] (fun _ => True) (fun _ => False) rfl rfl ?aP (fun _ hk => hk.elim) ?aF ?aO ?aB ?aS ?aL ?_; (case aP => exact rfl); (case aB => exact (zB)); (case aF => exact (fun _ _ => trivial)); (case aO => exact (zR a0.out)); (case aS => exact (below_size (zB))); (case aL => have := g6.out; omega); intro k0 k2 ho hb hg hat; rw [← g8.out] at ho; replace HB := zA (hb); have d3 := zA (ho); clear a0; clear ho hb hg hat; obtain ⟨h0, b0, e0⟩ := Kd.R_slice d3.out; subst e0)))
       go_loopg [5] g4 (fun kq v5 w' => ∃ (a3 : List ByteArray) (a2 : Int), v5 = .int .i64 a2 ∧ Aside0 (spec_Sorted.l1 kq l0 a3 a1 a2 = some r) ∧ Aside0 (kq ≤ g4) ∧ Aside0 (Kd.R Kd.string 9 w' w.heap.size (fun _ => True) (.slice h0 d9.length b0) a3) ∧ Aside0 (Below w.heap.size w w'))
       case atStart => exact ⟨(d9), (wrap64 ((d9.length : Int) - 1)), zS, H', ⟨Nat.le_refl _⟩, ⟨zR d3.out⟩, ⟨zB⟩⟩
       case round =>
        clear H'
        try clear c1
        try clear p2
        try clear p3
        try clear q3
        try clear hx3
        try clear c5
        try clear b9
        try clear c6
        try clear j7
        try clear p6
        try clear c7
        try clear j8
        try clear c11
        try clear c12
        try clear m0
        try clear c13
        try clear m1
        try clear g5
        try clear f0
        try clear g9
        try clear p2
        try clear p3
        try clear d6
        try clear f3
        try clear p6
        try clear q3
        try clear d7
        try clear f4
        obtain ⟨a3, a2, rfl, HA, d4, a0, HB⟩ := hrel; have c2 := (Kd.R_reads' a0.out).1; rw [c2] at a0
        (try simp only [c2])
        cases gk with
        | zero => exact absurd HA.out (by simp [spec_Sorted.l1])
        | succ k4 =>
         have H := HA.out; clear HA; simp only [spec_Sorted.l1] at H; replace H := zI1 H
         rcases H with ⟨e1, H⟩ | ⟨e1, H⟩
         ·have m4 : decide (0 < a2) = true := decide_eq_true e1; clear e1; obtain ⟨a4, f5⟩ : ∃ j_ : Int, (wrap64 (a2 - 1)) = j_ := ⟨_, rfl⟩
          replace H : (if 0 ≤ (a4) then (if (a4) < (a3.length : Int) then (if 0 ≤ a1 then (if a1 < (l0.length : Int) then (if (Op.bytesLess ((rdOf ByteArray.empty l0 a1).toList) ((rdOf ByteArray.empty a3 (a4)).toList)) = true then (if 0 ≤ a2 then (if a2 < (a3.length : Int) then (spec_Sorted.l1 k4 l0 (a3.set (a2 : Int).toNat (rdOf ByteArray.empty a3 (a4))) a1 a4) else (none)) else (none)) else (if 0 ≤ a2 then (if a2 < (a3.length : Int) then (spec_Sorted.l0 k4 l0 (a3.set (a2 : Int).toNat (rdOf ByteArray.empty l0 a1)) (wrap64 (a1 + 1))) else (none)) else (none))) else (none)) else (none)) else (none)) else (none)) = some r := by first | (rw [f5] at H; exact H) | (simp only [f5] at H ⊢; exact H)
          have hji18w : (IntKind.i64.wrap (a2 - 1)) = a4 := (i64_w _).trans f5; replace H := zD0 H; obtain ⟨n7, H⟩ := H; replace H := zD0 H; obtain ⟨n8, H⟩ := H; replace H := zD0 H; obtain ⟨n9, H⟩ := H; replace H := zD0 H; obtain ⟨o0, H⟩ := H; replace H := zI1 H
          rcases H with ⟨e2, H⟩ | ⟨e2, H⟩
          ·have m5 : (Op.bytesLess ((rdOf ByteArray.empty l0 a1).toList) ((rdOf ByteArray.empty a3 (a4)).toList)) = true := e2; clear e2; replace H := zD0 H; obtain ⟨o1, H⟩ := H; replace H := zD0 H; obtain ⟨o2, H⟩ := H; obtain ⟨e3, h1⟩ : ∃ y_ : List ByteArray, y_ = (a3.set (a2 : Int).toNat (rdOf ByteArray.empty a3 (a4))) := ⟨_, rfl⟩; replace H : (spec_Sorted.l1 k4 l0 e3 a1 a4) = some r := zY h1 H; have e4 := zA h1; clear h1; have H' := zA H; clear H; have c3 : 0 ≤ ((a4) : Int) := zD; have c4 : (a4) < (a3.length : Int) := zD; obtain ⟨k3, h2, h3⟩ := Kd.at_string (Kd.R_reads' a0.out).2.2 (a4) c3 c4; cases h2; replace c3 := eq_true c3; replace c4 := eq_true c4; have c8 : 0 ≤ (a1 : Int) := zD; have c9 : a1 < (l0.length : Int) := zD; obtain ⟨h4, h5, e5⟩ := Kd.at_string d0.out a1 c8 c9; obtain rfl : d8 = h4 := (by injection h5); replace e5 := zx HB e5; replace c8 := eq_true c8; replace c9 := eq_true c9; have h6 : 0 ≤ ((a4) : Int) := zD; have h7 : (a4) < (a3.length : Int) := zD; obtain ⟨m6, m7, m8⟩ := Kd.at_string (Kd.R_reads' a0.out).2.2 (a4) h6 h7; obtain rfl : k3 = m6 := (by injection m7); replace h6 := eq_true h6; replace h7 := eq_true h7; have h8 : 0 ≤ (a2 : Int) := zD; have h9 : (a2 : Int) < ((a3.length : Int) : Int) := zD; obtain ⟨b6, o3, k5, k6, m9, o4, k7⟩ := Kd.R_form a0.out (by omega)
           (first | cases k5 | (injection k5 with ea_ en_ ec_; (first | subst ea_ | (injection ea_ with ea_; subst ea_)); subst ec_; clear en_))
           have f6 := zA k6; have o5 := zA k7; clear k6 m9 k7
           (first | simp only [add_plain] at h3 | skip)
           (first | simp only [add_plain] at m8 | skip)
           obtain ⟨o6, o7⟩ := Kd.R_celln (⟨#[]⟩ : ByteArray) a0.out (a2 : Int) h8 h9; replace h8 := eq_true h8; replace h9 := eq_true h9; have a7 := Kd.R_putg a0.out (a2 : Int) (rdOf ByteArray.empty a3 (a4))
           go_wp2_with (first | ((with_reducible refine gate_store (t := 9) (p := 50) rfl ?_); (try (rw [drewN_self wr]; generalize hq_ : World.drewN wr _ = wr; replace a0 := zA (Kd.R_at hq_ a0.out); replace HB := zA (below_at hq_ HB.out); clear hq_; (try (have a7 := Kd.R_putg a0.out (a2 : Int) (rdOf ByteArray.empty a3 (a4)))))); refine store_event (t := 9) (p := 50) (v := ?vo_w28) (w1 := (wr.setCell ⟨b6, (a2 : Int).toNat, none⟩ (.string (rdOf ByteArray.empty a3 (a4))))) ?hg ?ho ?hn ?hr ?_; (case ho => rfl); (case hg => rfl); (case hn => rfl); (case hr => first | (go_simp; done) | (go_simp; rfl)); intro b1 hw; have hg : wr.grownBy b1 (some b6) := (by rw [hw]; exact a7.2); have hp_ : Kd.R Kd.string 9 b1 w.heap.size (fun _ => True) (.slice (some ⟨b6, 0, none⟩) a3.length b0) e3 := (by rw [hw, e4.out]; exact a7.1); clear a7; replace a0 := zA (hp_); replace HB := zA ((by rw [hw]; exact below_set (HB.out) f6.out : Below w.heap.size w b1)); clear hg hw hp_))
           repeat (go_quiet (first | ((with_reducible refine gate_store (t := 9) (p := 50) rfl ?_); (try (rw [drewN_self wr]; generalize hq_ : World.drewN wr _ = wr; replace a0 := zA (Kd.R_at hq_ a0.out); replace HB := zA (below_at hq_ HB.out); clear hq_; (try (have a7 := Kd.R_putg a0.out (a2 : Int) (rdOf ByteArray.empty a3 (a4)))))); refine store_event (t := 9) (p := 50) (v := ?vo_w28) (w1 := (wr.setCell ⟨b6, (a2 : Int).toNat, none⟩ (.string (rdOf ByteArray.empty a3 (a4))))) ?hg ?ho ?hn ?hr ?_; (case ho => rfl); (case hg => rfl); (case hn => rfl); (case hr => first | (go_simp; done) | (go_simp; rfl)); intro b1 hw; have hg : wr.grownBy b1 (some b6) := (by rw [hw]; exact a7.2); have hp_ : Kd.R Kd.string 9 b1 w.heap.size (fun _ => True) (.slice (some ⟨b6, 0, none⟩) a3.length b0) e3 := (by rw [hw, e4.out]; exact a7.1); clear a7; replace a0 := zA (hp_); replace HB := zA ((by rw [hw]; exact below_set (HB.out) f6.out : Below w.heap.size w b1)); clear hg hw hp_)); try go_wp2_with (first | ((with_reducible refine gate_store (t := 9) (p := 50) rfl ?_); (try (rw [drewN_self wr]; generalize hq_ : World.drewN wr _ = wr; replace a0 := zA (Kd.R_at hq_ a0.out); replace HB := zA (below_at hq_ HB.out); clear hq_; (try (have a7 := Kd.R_putg a0.out (a2 : Int) (rdOf ByteArray.empty a3 (a4)))))); refine store_event (t := 9) (p := 50) (v := ?vo_w28) (w1 := (wr.setCell ⟨b6, (a2 : Int).toNat, none⟩ (.string (rdOf ByteArray.empty a3 (a4))))) ?hg ?ho ?hn ?hr ?_; (case ho => rfl); (case hg => rfl); (case hn => rfl); (case hr => first | (go_simp; done) | (go_simp; rfl)); intro b1 hw; have hg : wr.grownBy b1 (some b6) := (by rw [hw]; exact a7.2); have hp_ : Kd.R Kd.string 9 b1 w.heap.size (fun _ => True) (.slice (some ⟨b6, 0, none⟩) a3.length b0) e3 := (by rw [hw, e4.out]; exact a7.1); clear a7; replace a0 := zA (hp_); replace HB := zA ((by rw [hw]; exact below_set (HB.out) f6.out : Below w.heap.size w b1)); clear hg hw hp_)))
           (try simp only [← c2])
           go_roundg k4
           case measure => have := b4.out; have := b5.out; have := d2.out; have := d4.out; omega
           case rel => exact ⟨(e3), (a4), (by first | rfl | (simp; done) | (simp only [← f5] <;> (first | rfl | simp)) | (simp [*]; done)), H', ⟨by have := b4.out; have := b5.out; have := d2.out; have := d4.out; omega⟩, ⟨by (try simp only [c2]); (with_reducible repeat (first | apply Kd.R_alloc | apply Kd.R_drewN | apply Kd.R_drew)); (first | exact a0.out | (rw [e4.out]; exact Kd.R_drewN a7.1 _) | (rw [e4.out]; exact a7.1))⟩, ⟨by first | ((repeat (first | (with_reducible first | exact HB.out | apply below_alloc | apply pw_below_drewN | apply below_drew1) | exact HB.out)); done) | (refine below_set ?_ f6.out; repeat (first | (with_reducible first | exact HB.out | apply below_alloc | apply pw_below_drewN | apply below_drew1) | exact HB.out))⟩⟩
          have m5 : (Op.bytesLess ((rdOf ByteArray.empty l0 a1).toList) ((rdOf ByteArray.empty a3 (a4)).toList)) = false := by simpa using e2
          clear e2; replace H := zD0 H; obtain ⟨o8, H⟩ := H; replace H := zD0 H; obtain ⟨o9, H⟩ := H; obtain ⟨e6, i0⟩ : ∃ y_ : List ByteArray, y_ = (a3.set (a2 : Int).toNat (rdOf ByteArray.empty l0 a1)) := ⟨_, rfl⟩; replace H : (spec_Sorted.l0 k4 l0 e6 (wrap64 (a1 + 1))) = some r := zY i0 H; have e7 := zA i0; clear i0; have H' := zA H; clear H; have c3 : 0 ≤ ((a4) : Int) := zD; have c4 : (a4) < (a3.length : Int) := zD; obtain ⟨k3, h2, h3⟩ := Kd.at_string (Kd.R_reads' a0.out).2.2 (a4) c3 c4; cases h2; replace c3 := eq_true c3; replace c4 := eq_true c4; have c8 : 0 ≤ (a1 : Int) := zD; have c9 : a1 < (l0.length : Int) := zD; obtain ⟨h4, h5, e5⟩ := Kd.at_string d0.out a1 c8 c9; obtain rfl : d8 = h4 := (by injection h5); replace e5 := zx HB e5; replace c8 := eq_true c8; replace c9 := eq_true c9; have i1 : 0 ≤ (a1 : Int) := zD; have i2 : a1 < (l0.length : Int) := zD; obtain ⟨n0, n1, k8⟩ := Kd.at_string d0.out a1 i1 i2; obtain rfl : d8 = n0 := (by injection n1); replace k8 := zx HB k8; replace i1 := eq_true i1; replace i2 := eq_true i2; have i3 : 0 ≤ (a2 : Int) := zD; have i4 : (a2 : Int) < ((a3.length : Int) : Int) := zD; obtain ⟨b7, p0, k9, l2, n2, p1, l3⟩ := Kd.R_form a0.out (by omega)
          (first | cases k9 | (injection k9 with ea_ en_ ec_; (first | subst ea_ | (injection ea_ with ea_; subst ea_)); subst ec_; clear en_))
          have f7 := zA l2; have p4 := zA l3; clear l2 n2 l3
          (first | simp only [add_plain] at h3 | skip)
          obtain ⟨p5, p7⟩ := Kd.R_celln (⟨#[]⟩ : ByteArray) a0.out (a2 : Int) i3 i4; replace i3 := eq_true i3; replace i4 := eq_true i4; have a8 := Kd.R_putg a0.out (a2 : Int) (rdOf ByteArray.empty l0 a1)
          go_wp2_with (first | ((with_reducible refine gate_store (t := 9) (p := 59) rfl ?_); (try (rw [drewN_self wr]; generalize hq_ : World.drewN wr _ = wr; replace a0 := zA (Kd.R_at hq_ a0.out); replace HB := zA (below_at hq_ HB.out); clear hq_; (try (have a8 := Kd.R_putg a0.out (a2 : Int) (rdOf ByteArray.empty l0 a1))))); refine store_event (t := 9) (p := 59) (v := ?vo_w33) (w1 := (wr.setCell ⟨b7, (a2 : Int).toNat, none⟩ (.string (rdOf ByteArray.empty l0 a1)))) ?hg ?ho ?hn ?hr ?_; (case ho => rfl); (case hg => rfl); (case hn => rfl); (case hr => first | (go_simp; done) | (go_simp; rfl)); intro b2 hw; have hg : wr.grownBy b2 (some b7) := (by rw [hw]; exact a8.2); have hp_ : Kd.R Kd.string 9 b2 w.heap.size (fun _ => True) (.slice (some ⟨b7, 0, none⟩) a3.length b0) e6 := (by rw [hw, e7.out]; exact a8.1); clear a8; replace a0 := zA (hp_); replace HB := zA ((by rw [hw]; exact below_set (HB.out) f7.out : Below w.heap.size w b2)); clear hg hw hp_))
          repeat (go_quiet (first | ((with_reducible refine gate_store (t := 9) (p := 59) rfl ?_); (try (rw [drewN_self wr]; generalize hq_ : World.drewN wr _ = wr; replace a0 := zA (Kd.R_at hq_ a0.out); replace HB := zA (below_at hq_ HB.out); clear hq_; (try (have a8 := Kd.R_putg a0.out (a2 : Int) (rdOf ByteArray.empty l0 a1))))); refine store_event (t := 9) (p := 59) (v := ?vo_w33) (w1 := (wr.setCell ⟨b7, (a2 : Int).toNat, none⟩ (.string (rdOf ByteArray.empty l0 a1)))) ?hg ?ho ?hn ?hr ?_; (case ho => rfl); (case hg => rfl); (case hn => rfl); (case hr => first | (go_simp; done) | (go_simp; rfl)); intro b2 hw; have hg : wr.grownBy b2 (some b7) := (by rw [hw]; exact a8.2); have hp_ : Kd.R Kd.string 9 b2 w.heap.size (fun _ => True) (.slice (some ⟨b7, 0, none⟩) a3.length b0) e6 := (by rw [hw, e7.out]; exact a8.1); clear a8; replace a0 := zA (hp_); replace HB := zA ((by rw [hw]; exact below_set (HB.out) f7.out : Below w.heap.size w b2)); clear hg hw hp_)); try go_wp2_with (first | ((with_reducible refine gate_store (t := 9) (p := 59) rfl ?_); (try (rw [drewN_self wr]; generalize hq_ : World.drewN wr _ = wr; replace a0 := zA (Kd.R_at hq_ a0.out); replace HB := zA (below_at hq_ HB.out); clear hq_; (try (have a8 := Kd.R_putg a0.out (a2 : Int) (rdOf ByteArray.empty l0 a1))))); refine store_event (t := 9) (p := 59) (v := ?vo_w33) (w1 := (wr.setCell ⟨b7, (a2 : Int).toNat, none⟩ (.string (rdOf ByteArray.empty l0 a1)))) ?hg ?ho ?hn ?hr ?_; (case ho => rfl); (case hg => rfl); (case hn => rfl); (case hr => first | (go_simp; done) | (go_simp; rfl)); intro b2 hw; have hg : wr.grownBy b2 (some b7) := (by rw [hw]; exact a8.2); have hp_ : Kd.R Kd.string 9 b2 w.heap.size (fun _ => True) (.slice (some ⟨b7, 0, none⟩) a3.length b0) e6 := (by rw [hw, e7.out]; exact a8.1); clear a8; replace a0 := zA (hp_); replace HB := zA ((by rw [hw]; exact below_set (HB.out) f7.out : Below w.heap.size w b2)); clear hg hw hp_)))
          (try simp only [← c2])
          go_roundg k4
          case measure => have := b4.out; have := b5.out; have := d2.out; have := d4.out; omega
          case rel => exact ⟨(e6), (wrap64 (a1 + 1)), zS, H', ⟨by have := b4.out; have := b5.out; have := d2.out; have := d4.out; omega⟩, ⟨by (try simp only [c2]); (with_reducible repeat (first | apply Kd.R_alloc | apply Kd.R_drewN | apply Kd.R_drew)); (first | exact a0.out | (rw [e7.out]; exact Kd.R_drewN a8.1 _) | (rw [e7.out]; exact a8.1))⟩, ⟨by first | ((repeat (first | (with_reducible first | exact HB.out | apply below_alloc | apply pw_below_drewN | apply below_drew1) | exact HB.out)); done) | (refine below_set ?_ f7.out; repeat (first | (with_reducible first | exact HB.out | apply below_alloc | apply pw_below_drewN | apply below_drew1) | exact HB.out))⟩⟩
         have m4 : decide (0 < a2) = false := decide_eq_false e1; clear e1; replace H := zD0 H; obtain ⟨p8, H⟩ := H; replace H := zD0 H; obtain ⟨p9, H⟩ := H; replace H := zD0 H; obtain ⟨q0, H⟩ := H; replace H := zD0 H; obtain ⟨q1, H⟩ := H; obtain ⟨e8, i5⟩ : ∃ y_ : List ByteArray, y_ = (a3.set (a2 : Int).toNat (rdOf ByteArray.empty l0 a1)) := ⟨_, rfl⟩; replace H : (spec_Sorted.l0 k4 l0 e8 (wrap64 (a1 + 1))) = some r := zY i5 H; have e9 := zA i5; clear i5; have H' := zA H; clear H; have i6 : 0 ≤ (a1 : Int) := zD; have i7 : a1 < (l0.length : Int) := zD; obtain ⟨n3, n4, l4⟩ := Kd.at_string d0.out a1 i6 i7; obtain rfl : d8 = n3 := (by injection n4); replace l4 := zx HB l4; replace i6 := eq_true i6; replace i7 := eq_true i7; have i8 : 0 ≤ (a2 : Int) := zD; have i9 : (a2 : Int) < ((a3.length : Int) : Int) := zD; obtain ⟨b8, q2, l5, l6, n5, q4, l7⟩ := Kd.R_form a0.out (by omega)
         (first | cases l5 | (injection l5 with ea_ en_ ec_; (first | subst ea_ | (injection ea_ with ea_; subst ea_)); subst ec_; clear en_))
         have f8 := zA l6; have q5 := zA l7; clear l6 n5 l7; obtain ⟨q6, q7⟩ := Kd.R_celln (⟨#[]⟩ : ByteArray) a0.out (a2 : Int) i8 i9; replace i8 := eq_true i8; replace i9 := eq_true i9; have a9 := Kd.R_putg a0.out (a2 : Int) (rdOf ByteArray.empty l0 a1)
         go_wp2_with (first | ((with_reducible refine gate_store (t := 9) (p := 59) rfl ?_); (try (rw [drewN_self wr]; generalize hq_ : World.drewN wr _ = wr; replace a0 := zA (Kd.R_at hq_ a0.out); replace HB := zA (below_at hq_ HB.out); clear hq_; (try (have a9 := Kd.R_putg a0.out (a2 : Int) (rdOf ByteArray.empty l0 a1))))); refine store_event (t := 9) (p := 59) (v := ?vo_w40) (w1 := (wr.setCell ⟨b8, (a2 : Int).toNat, none⟩ (.string (rdOf ByteArray.empty l0 a1)))) ?hg ?ho ?hn ?hr ?_; (case ho => rfl); (case hg => rfl); (case hn => rfl); (case hr => first | (go_simp; done) | (go_simp; rfl)); intro b3 hw; have hg : wr.grownBy b3 (some b8) := (by rw [hw]; exact a9.2); have hp_ : Kd.R Kd.string 9 b3 w.heap.size (fun _ => True) (.slice (some ⟨b8, 0, none⟩) a3.length b0) e8 := (by rw [hw, e9.out]; exact a9.1); clear a9; replace a0 := zA (hp_); replace HB := zA ((by rw [hw]; exact below_set (HB.out) f8.out : Below w.heap.size w b3)); clear hg hw hp_))
         repeat (go_quiet (first | ((with_reducible refine gate_store (t := 9) (p := 59) rfl ?_); (try (rw [drewN_self wr]; generalize hq_ : World.drewN wr _ = wr; replace a0 := zA (Kd.R_at hq_ a0.out); replace HB := zA (below_at hq_ HB.out); clear hq_; (try (have a9 := Kd.R_putg a0.out (a2 : Int) (rdOf ByteArray.empty l0 a1))))); refine store_event (t := 9) (p := 59) (v := ?vo_w40) (w1 := (wr.setCell ⟨b8, (a2 : Int).toNat, none⟩ (.string (rdOf ByteArray.empty l0 a1)))) ?hg ?ho ?hn ?hr ?_; (case ho => rfl); (case hg => rfl); (case hn => rfl); (case hr => first | (go_simp; done) | (go_simp; rfl)); intro b3 hw; have hg : wr.grownBy b3 (some b8) := (by rw [hw]; exact a9.2); have hp_ : Kd.R Kd.string 9 b3 w.heap.size (fun _ => True) (.slice (some ⟨b8, 0, none⟩) a3.length b0) e8 := (by rw [hw, e9.out]; exact a9.1); clear a9; replace a0 := zA (hp_); replace HB := zA ((by rw [hw]; exact below_set (HB.out) f8.out : Below w.heap.size w b3)); clear hg hw hp_)); try go_wp2_with (first | ((with_reducible refine gate_store (t := 9) (p := 59) rfl ?_); (try (rw [drewN_self wr]; generalize hq_ : World.drewN wr _ = wr; replace a0 := zA (Kd.R_at hq_ a0.out); replace HB := zA (below_at hq_ HB.out); clear hq_; (try (have a9 := Kd.R_putg a0.out (a2 : Int) (rdOf ByteArray.empty l0 a1))))); refine store_event (t := 9) (p := 59) (v := ?vo_w40) (w1 := (wr.setCell ⟨b8, (a2 : Int).toNat, none⟩ (.string (rdOf ByteArray.empty l0 a1)))) ?hg ?ho ?hn ?hr ?_; (case ho => rfl); (case hg => rfl); (case hn => rfl); (case hr => first | (go_simp; done) | (go_simp; rfl)); intro b3 hw; have hg : wr.grownBy b3 (some b8) := (by rw [hw]; exact a9.2); have hp_ : Kd.R Kd.string 9 b3 w.heap.size (fun _ => True) (.slice (some ⟨b8, 0, none⟩) a3.length b0) e8 := (by rw [hw, e9.out]; exact a9.1); clear a9; replace a0 := zA (hp_); replace HB := zA ((by rw [hw]; exact below_set (HB.out) f8.out : Below w.heap.size w b3)); clear hg hw hp_)))
         (try simp only [← c2])
         go_roundg k4
         case measure => have := b4.out; have := b5.out; have := d2.out; have := d4.out; omega
         case rel => exact ⟨(e8), (wrap64 (a1 + 1)), zS, H', ⟨by have := b4.out; have := b5.out; have := d2.out; have := d4.out; omega⟩, ⟨by (try simp only [c2]); (with_reducible repeat (first | apply Kd.R_alloc | apply Kd.R_drewN | apply Kd.R_drew)); (first | exact a0.out | (rw [e9.out]; exact Kd.R_drewN a9.1 _) | (rw [e9.out]; exact a9.1))⟩, ⟨by first | ((repeat (first | (with_reducible first | exact HB.out | apply below_alloc | apply pw_below_drewN | apply below_drew1) | exact HB.out)); done) | (refine below_set ?_ f8.out; repeat (first | (with_reducible first | exact HB.out | apply below_alloc | apply pw_below_drewN | apply below_drew1) | exact HB.out))⟩⟩
end Go.Proofs.YtbaeljcnbkeipaaDoor.PGA
