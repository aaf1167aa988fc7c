/- The walks of the functions that these laws reach, and what each comes to: printed by this session's program. -/
import Derived.Test.YtpcdhoeoefoeoaaGreatDoorZGCPGCx0
import Derived.Test.YtpcdhoeoefoeoaaGreatDoorZGCPGCx18
import Derived.Test.YtpcdhoeoefoeoaaGreatDoorZGCSays
import Derived.Test.YtpcdhoeoefoeoaaGreatDoorZGCRegN
import Derived.Test.YtpcdhoeoefoeoaaGreatDoorZGCRegs
namespace Go.Proofs.YtpcdhoeoefoeoaaGreatDoor.PGC
open Go.RowKit YtpcdhoeoefoeoaaGreatDoorW.PrintWords YtpcdhoeoefoeoaaGreatDoorW.PrintLast YtpcdhoeoefoeoaaGreatDoorW.PrintMore
attribute [local go_sem high] Mine.str_gtr Mine.str_leq Mine.str_geq
attribute [local go_sem] max2_int min2_int max_two min_two max_three min_three max_four min_four   -- for this text's walks alone
set_option linter.unusedVariables false
set_option maxHeartbeats 8000000
set_option maxRecDepth 100000
set_option linter.unusedSimpArgs false
/-! ### impl_wordCmps: function 169 -/
def impl_wordCmps.f (k : Nat) (a0 : ByteArray) (a3 a4 a5 : Int) (a6 : List ByteArray) (a2 : Int) : Option ((List (S75))) := (impl_nextOf.f a3 a4 a5 a6 a2).bind fun a1 => (if a0.toList = ([62, 61] : List UInt8) then (some (([(⟨4, (⟨a3, a4, a5, a6⟩ : S32)⟩ : S75)] : List (S75)))) else (if a0.toList = ([60] : List UInt8) then (some (([(⟨1, (⟨a3, a4, a5, a6⟩ : S32)⟩ : S75)] : List (S75)))) else (if a0.toList = ([62] : List UInt8) then (if a2 < 3 then (some (([(⟨4, (⟨a1.1, a1.2.1, a1.2.2.1, a1.2.2.2⟩ : S32)⟩ : S75)] : List (S75)))) else (some (([(⟨3, (⟨a3, a4, a5, a6⟩ : S32)⟩ : S75)] : List (S75))))) else (if a0.toList = ([60, 61] : List UInt8) then (if a2 < 3 then ((impl_below.f a1.1 a1.2.1 a1.2.2.1 a1.2.2.2).bind fun a7 => (some (([(⟨a7.1, (⟨a7.2.1, a7.2.2.1, a7.2.2.2.1, a7.2.2.2.2⟩ : S32)⟩ : S75)] : List (S75))))) else (some (([(⟨2, (⟨a3, a4, a5, a6⟩ : S32)⟩ : S75)] : List (S75))))) else (if a0.toList = ([126] : List UInt8) then ((impl_nextOf.f a3 a4 0 ([] : List ByteArray) (mn a2 2)).bind fun b1 => ((impl_below.f b1.1 b1.2.1 b1.2.2.1 b1.2.2.2).bind fun a8 => (some (([(⟨4, (⟨a3, a4, a5, a6⟩ : S32)⟩ : S75), (⟨a8.1, (⟨a8.2.1, a8.2.2.1, a8.2.2.2.1, a8.2.2.2.2⟩ : S32)⟩ : S75)] : List (S75)))))) else (if a0.toList = ([94] : List UInt8) then ((impl_caret.f k a3 a4 a5 a6 a2).bind fun b2 => ((impl_below.f b2.1 b2.2.1 b2.2.2.1 b2.2.2.2).bind fun a9 => (some (([(⟨4, (⟨a3, a4, a5, a6⟩ : S32)⟩ : S75), (⟨a9.1, (⟨a9.2.1, a9.2.2.1, a9.2.2.2.1, a9.2.2.2.2⟩ : S32)⟩ : S75)] : List (S75)))))) else (if a2 < 3 then ((impl_below.f a1.1 a1.2.1 a1.2.2.1 a1.2.2.2).bind fun b0 => (some (([(⟨4, (⟨a3, a4, a5, a6⟩ : S32)⟩ : S75), (⟨b0.1, (⟨b0.2.1, b0.2.2.1, b0.2.2.2.1, b0.2.2.2.2⟩ : S32)⟩ : S75)] : List (S75))))) else (some (([(⟨0, (⟨a3, a4, a5, a6⟩ : S32)⟩ : S75)] : List (S75)))))))))))
def impl_wordCmps.T18 : Bool × List (List Nat × List Nat) := (true, [([], []), ([], []), ([1], [1]), ([], []), ([3], [3]), ([2, 4], [2, 4]), ([], []), ([6], [6]), ([5, 7], [5, 7]), ([8, 8], [8]), ([0, 9], [0, 9]), ([10, 9, 0, 1, 2, 3, 4, 5, 6, 7, 8, 9, 10], [10])])
def impl_wordCmps.B18 : List Nat := [0, 0, 2, 0, 8, 30, 0, 64, 254, 510, 1023, 2047]
theorem impl_wordCmps.tab18 : rtab .any (opsOf Tryz.f169 18) = impl_wordCmps.T18 := by kernel_rfl
theorem impl_wordCmps.bits18 : waitsOk impl_wordCmps.T18.2 impl_wordCmps.B18 = true := by kernel_rfl
theorem impl_wordCmps.calls (k : Nat) (a0 : ByteArray) (a8 a9 b1 : Int) (b8 : Nat → Prop) (b6 : Option Addr) (b5 : Nat) (a5 : List ByteArray) (a2 : Int) (r : List (S75)) (w : World) (q2 : Kd.V Kd.string 9 w w.heap.size (fun k_ => b8 k_) (.slice b6 a5.length b5) a5) (h : impl_wordCmps.f k a0 a8 a9 b1 a5 a2 = some r) :
  Calls Tryz.prog 169 #[.string a0, .agg #[.int .i64 a8, .int .i64 a9, .int .i64 b1, .slice b6 a5.length b5], .int .i64 a2] w fun e w' => ∃ n8 : Value, e = .returned (n8) ∧ Kd.N k75 75 w' w.heap.size (fun k_ => (b8 k_ ∨ w.heap.size ≤ k_)) n8 r ∧ Below w.heap.size w w' := by
 have y9 := Tryz.underlying32
 have z0 := Tryz.underlying75
 have a3 := zA (show Kd.V Kd.string 9 w w.heap.size (fun k_ => (b8 k_ ∨ w.heap.size ≤ k_)) (.slice b6 a5.length b5) a5 from Kd.V_mono q2 (fun k_ hk => .inl hk))
 have HB := zA (Below.refl w.heap.size w)
 unfold impl_wordCmps.f at h
 have H := h
 clear h
 replace H := zj H
 obtain ⟨⟨b9, c0, c1, b2⟩, A4, H⟩ := H
 try dsimp only at H
 replace H := zI1 H
 rcases H with ⟨c5, H⟩ | ⟨c5, H⟩
 ·have k1 := beq_iff_eq.mpr c5
  have k2 := bne_eq_false_iff_eq.mpr c5
  clear c5
  obtain ⟨q3, l2⟩ : ∃ y_ : List (S75), y_ = (([(⟨4, (⟨a8, a9, b1, a5⟩ : S32)⟩ : S75)] : List (S75))) := ⟨_, rfl⟩
  replace H : (some q3) = some r := zY l2 H
  have n9 := Aside0.mk l2
  clear l2
  obtain rfl := Option.some.inj H
  go_enter Tryz.func169, Tryz.ntmps169
  go_wp2_with (first | ((with_reducible refine zd 4 ?_); refine ze 4 32 #[.int .i64 a8, .int .i64 a9, .int .i64 b1, .slice b6 a5.length b5] ?_; intro b4 hg w6 hbox hb; replace a3 := zA (Kd.V_below (Kd.V_elderB (zV a3.out) b4 (Nat.le_of_eq hg.symm)) hb); have a1 := zA (hbox); have e3 := zi HB hg; have e4 := zi HB hg; replace HB := zA (below_step (zB) hb); clear hb hbox hg; obtain ⟨z1, z2, z3, z4, z5, z6, z7, z8⟩ := ze4 a1.out) | ((with_reducible refine zd 7 ?_); refine ze 7 75 #[.int .i64 0, .int .i64 0, .int .i64 0, .int .i64 0, .slice none 0 0] ?_; intro b3 hg w8 hbox hb; replace a3 := zA (Kd.V_below (Kd.V_elderB (zV a3.out) b3 (Nat.le_of_eq hg.symm)) hb); have a4 := zA (hbox); have e5 := zi HB hg; have e6 := zi HB hg; replace HB := zh HB hb; have c2 := zA (zL hg (zK a1.out)); have c3 := zA (zJ hg (zK a1.out)); replace a1 := zb a1 hb; clear hb hbox hg; have z9 := c3.out; have A0 := c2.out; obtain ⟨A1, A2, A3, A5, A6, A7, A8, A9, B0, B1⟩ := ze5 a4.out; obtain ⟨B2, B3, B4, B5, B6, B7, B8, B9⟩ := ze4 a1.out) | ((with_reducible refine zq 191 ?_); refine zg (some 16) Tryz.func191 #[.agg #[.int .i64 a8, .int .i64 a9, .int .i64 b1, .slice b6 a5.length b5], .int .i64 a2] ?_; (with_reducible refine (impl_nextOf.calls a8 a9 b1 _ _ a5 a2 b9 c0 c1 b2 _ ?side1 ?side2 A4.out).mono ?_); (case side1 => refine (Kd.V_reads' (e := 9) (base := w.heap.size) (ok := fun k_ => (((b8 k_ ∨ w.heap.size ≤ k_) ∧ k_ ≠ b4) ∧ k_ ≠ b3)) (n := a5.length) (c := b5) ?_).2.2; exact (zVt (zv5 a3.out (fun _ hk => hk.2)))); (case side2 => exact (Kd.V_reads' a3.out).2.1); rintro e C0 ⟨e7, rfl, b7, hb⟩; refine ⟨_, rfl, ?_⟩; replace a3 := zA (Kd.V_elder' (zVt (zv5 a3.out (fun _ hk => hk.2))) (Kd.R_base b7) hb); have a7 := zA (Kd.R_lower (Kd.R_newM (M := fun k_ => (w.heap.size ≤ k_)) b7 (below_size (zW HB.out)) (fun k_ h_ => h_)) (below_size (zW HB.out))); replace a1 := zb a1 hb; replace a4 := zA (blk_below (zk5 a4.out) hb); replace HB := zh HB hb; (try clear hb b7)) | ((with_reducible refine zd 9 ?_); refine ze 9 32 #[.int .i64 0, .int .i64 0, .int .i64 0, .slice none 0 0] ?_; intro a6 hg q4 hbox hb; replace a3 := zA (Kd.V_below (Kd.V_elderB (zV a3.out) a6 (Nat.le_of_eq hg.symm)) hb); replace a7 := zr a7 hb; have b0 := zA (hbox); have e8 := zi HB hg; have e9 := zi HB hg; replace HB := zh HB hb; have c4 := zA (zL hg (zK a1.out)); have c6 := zA (zJ hg (zK a1.out)); replace a1 := zb a1 hb; have c7 := zA (zL hg (zK a4.out)); have c8 := zA (zJ hg (zK a4.out)); replace a4 := zb a4 hb; clear hb hbox hg; have C1 := c6.out; have C2 := c4.out; have C3 := c8.out; have C4 := c7.out; obtain ⟨C5, C6, C7, C8, C9, D0, D1, D2⟩ := ze4 b0.out; obtain ⟨f0, f1, q5⟩ := Kd.R_slice a7.out; subst q5) | ((with_reducible refine gate_store (t := 32) (p := 9) rfl ?_); refine store_event (t := 32) (p := 9) (v := ?vo_w18) (w1 := ((((q4.setCell ⟨a6, 0, none⟩ (.int .i64 b9)).setCell ⟨a6, 1, none⟩ (.int .i64 c0)).setCell ⟨a6, 2, none⟩ (.int .i64 c1)).setCell ⟨a6, 3, none⟩ (.slice f0 b2.length f1))) ?hg ?ho ?hn ?hr ?_; (case ho => rfl); (case hg => rfl); (case hn => rfl); (case hr => first | (go_simp; done) | (go_simp; rfl)); intro l3 hw; replace a3 : Aside0 (Kd.V Kd.string 9 l3 w.heap.size (fun k_ => (b8 k_ ∨ w.heap.size ≤ k_) ∧ some k_ ≠ (.slice f0 b2.length f1 : Value).ownBlock ∧ k_ ≠ b4 ∧ k_ ≠ b3 ∧ k_ ≠ a6) (.slice b6 a5.length b5) a5) := ⟨(by rw [hw]; exact (zVt (Kd.V_mono (zv4 a3.out (fun _ hk => hk.2)) (fun _ hk => ⟨hk.1.1.1.1, ⟨hk.1.2, ⟨hk.1.1.1.2, ⟨hk.1.1.2, hk.2⟩⟩⟩⟩))))⟩; replace a7 : Aside0 (Kd.R Kd.string 9 l3 w.heap.size (fun k_ => (w.heap.size ≤ k_)) (.slice f0 b2.length f1) b2) := ⟨(by rw [hw]; exact (zR (Kd.R_mono (zr4 a7.out b0.out) (fun _ hk => hk.1))))⟩; replace a1 := zA (zh1 hw (zK a1.out)); replace a4 := zA (zh1 hw (zK a4.out)); replace b0 := zA (zh1 hw (zk4 b0.out)); replace HB := zA (zh2 hw (zW HB.out)); clear hw; obtain ⟨D3, D4, D5, D6, D7, D8, D9, E0, E1, E2⟩ := ze5 a4.out) | ((with_reducible refine gate_dst (N := 21) rfl ?_); refine Kd.N_lit k75 _ 75 ?hg (N' := 21) ?hd (xs := ([(⟨4, (⟨a8, a9, b1, a5⟩ : S32)⟩ : S75)] : List (S75))) (inner := [.int .i64 4, .int .i64 a8, .int .i64 a9, .int .i64 b1, .slice b6 a5.length b5]) (ok := (fun k_ => (b8 k_ ∨ w.heap.size ≤ k_) ∧ some k_ ≠ (.slice f0 b2.length f1 : Value).ownBlock ∧ k_ ≠ b4 ∧ k_ ≠ b3 ∧ k_ ≠ a6)) ?hr ?hp (fun _ hk => hk) ((show ∀ k_, l3.heap.size ≤ k_ → (fun k_ => (b8 k_ ∨ w.heap.size ≤ k_) ∧ some k_ ≠ (.slice f0 b2.length f1 : Value).ownBlock ∧ k_ ≠ b4 ∧ k_ ≠ b3 ∧ k_ ≠ a6) k_ from fun k_ hk => ⟨(.inr (Nat.le_trans (below_size (zW HB.out)) hk)), Kd.fresh' (Kd.R_lt (zR a7.out)) k_ hk, Kd.freshB (g := b4) (o := .cells #[.int .i64 a8, .int .i64 a9, .int .i64 b1, .slice b6 a5.length b5] 32 (0, 0)) (zK a1.out) k_ hk, Kd.freshB (g := b3) (o := .cells #[.int .i64 4, .int .i64 a8, .int .i64 a9, .int .i64 b1, .slice b6 a5.length b5] 75 (0, 0)) (zK a4.out) k_ hk, Kd.freshB (g := a6) (o := .cells #[.int .i64 b9, .int .i64 c0, .int .i64 c1, .slice f0 b2.length f1] 32 (0, 0)) (zK b0.out) k_ hk⟩) _ (Nat.le_refl _)) (Below.refl _ _) (Nat.le_refl _) (by simp) ?_; (case hd => rfl); (case hg => rfl); (case hr => first | (go_simp; done) | (go_simp; rfl)); (case hp => exact (Reps.c5 (show Kd.FK k75 _ _ (⟨4, (⟨a8, a9, b1, a5⟩ : S32)⟩ : S75) [.int .i64 4, .int .i64 a8, .int .i64 a9, .int .i64 b1, .slice b6 a5.length b5] from (k75_mkF _ _ (⟨4, (⟨a8, a9, b1, a5⟩ : S32)⟩ : S75) (Kd.V_reads' (Kd.V_mono (ok' := (fun k_ => (b8 k_ ∨ w.heap.size ≤ k_) ∧ some k_ ≠ (.slice f0 b2.length f1 : Value).ownBlock ∧ k_ ≠ b4 ∧ k_ ≠ b3 ∧ k_ ≠ a6)) (a3.out) (fun k_ hk => ⟨hk.1, ⟨hk.2.1, ⟨hk.2.2.1, ⟨hk.2.2.2.1, hk.2.2.2.2⟩⟩⟩⟩))).2.1 (Kd.V_F (Kd.V_mono (ok' := (fun k_ => (b8 k_ ∨ w.heap.size ≤ k_) ∧ some k_ ≠ (.slice f0 b2.length f1 : Value).ownBlock ∧ k_ ≠ b4 ∧ k_ ≠ b3 ∧ k_ ≠ a6)) (a3.out) (fun k_ hk => ⟨hk.1, ⟨hk.2.1, ⟨hk.2.2.1, ⟨hk.2.2.2.1, hk.2.2.2.2⟩⟩⟩⟩))))) (Reps.none _ _))); intro E3 E4 i4 hb hg_ hnew_; clear hg_ hnew_; (first | rw [← n9.out] at i4 | (simp only [Int.reduceToNat] at i4; rw [← n9.out] at i4)); replace a3 := zA (Kd.V_elder' (zV a3.out) (Kd.N_base i4) hb); replace a7 := zr a7 hb; have q6 := zA (Kd.N_lower i4 (below_size (zW HB.out))); replace a1 := zb a1 hb; replace a4 := zb a4 hb; replace b0 := zb b0 hb; replace HB := zh HB hb; clear hb i4))
  go_ret
  exact ⟨_, zE, zNt (Kd.N_mono q6.out (fun _ hk => hk.1)), zW HB.out⟩
 ·have k1 := beq_eq_false_iff_ne.mpr c5
  have k2 := bne_iff_ne.mpr c5
  replace H := zI1 H
  rcases H with ⟨i5, H⟩ | ⟨i5, H⟩
  ·have k3 := beq_iff_eq.mpr i5
   have k4 := bne_eq_false_iff_eq.mpr i5
   clear i5
   obtain ⟨q7, l4⟩ : ∃ y_ : List (S75), y_ = (([(⟨1, (⟨a8, a9, b1, a5⟩ : S32)⟩ : S75)] : List (S75))) := ⟨_, rfl⟩
   replace H : (some q7) = some r := zY l4 H
   have o0 := Aside0.mk l4
   clear l4
   obtain rfl := Option.some.inj H
   go_enter Tryz.func169, Tryz.ntmps169
   go_wp2_with (first | ((with_reducible refine zd 4 ?_); refine ze 4 32 #[.int .i64 a8, .int .i64 a9, .int .i64 b1, .slice b6 a5.length b5] ?_; intro b4 hg E5 hbox hb; replace a3 := zA (Kd.V_below (Kd.V_elderB (zV a3.out) b4 (Nat.le_of_eq hg.symm)) hb); have a1 := zA (hbox); have e3 := zi HB hg; have e4 := zi HB hg; replace HB := zA (below_step (zB) hb); clear hb hbox hg; obtain ⟨E6, E7, E8, E9, F0, F1, F2, F3⟩ := ze4 a1.out) | ((with_reducible refine zd 7 ?_); refine ze 7 75 #[.int .i64 0, .int .i64 0, .int .i64 0, .int .i64 0, .slice none 0 0] ?_; intro b3 hg F4 hbox hb; replace a3 := zA (Kd.V_below (Kd.V_elderB (zV a3.out) b3 (Nat.le_of_eq hg.symm)) hb); have a4 := zA (hbox); have e5 := zi HB hg; have e6 := zi HB hg; replace HB := zh HB hb; have c2 := zA (zL hg (zK a1.out)); have c3 := zA (zJ hg (zK a1.out)); replace a1 := zb a1 hb; clear hb hbox hg; have F5 := c3.out; have F6 := c2.out; obtain ⟨F7, F8, F9, G0, G1, G2, G3, G4, G5, G6⟩ := ze5 a4.out; obtain ⟨G7, G8, G9, I0, I1, I2, I3, I4⟩ := ze4 a1.out) | ((with_reducible refine zq 191 ?_); refine zg (some 16) Tryz.func191 #[.agg #[.int .i64 a8, .int .i64 a9, .int .i64 b1, .slice b6 a5.length b5], .int .i64 a2] ?_; (with_reducible refine (impl_nextOf.calls a8 a9 b1 _ _ a5 a2 b9 c0 c1 b2 _ ?side1 ?side2 A4.out).mono ?_); (case side1 => refine (Kd.V_reads' (e := 9) (base := w.heap.size) (ok := fun k_ => (((b8 k_ ∨ w.heap.size ≤ k_) ∧ k_ ≠ b4) ∧ k_ ≠ b3)) (n := a5.length) (c := b5) ?_).2.2; exact (zVt (zv5 a3.out (fun _ hk => hk.2)))); (case side2 => exact (Kd.V_reads' a3.out).2.1); rintro e I5 ⟨e7, rfl, b7, hb⟩; refine ⟨_, rfl, ?_⟩; replace a3 := zA (Kd.V_elder' (zVt (zv5 a3.out (fun _ hk => hk.2))) (Kd.R_base b7) hb); have a7 := zA (Kd.R_lower (Kd.R_newM (M := fun k_ => (w.heap.size ≤ k_)) b7 (below_size (zW HB.out)) (fun k_ h_ => h_)) (below_size (zW HB.out))); replace a1 := zb a1 hb; replace a4 := zA (blk_below (zk5 a4.out) hb); replace HB := zh HB hb; (try clear hb b7)) | ((with_reducible refine zd 9 ?_); refine ze 9 32 #[.int .i64 0, .int .i64 0, .int .i64 0, .slice none 0 0] ?_; intro a6 hg q8 hbox hb; replace a3 := zA (Kd.V_below (Kd.V_elderB (zV a3.out) a6 (Nat.le_of_eq hg.symm)) hb); replace a7 := zr a7 hb; have b0 := zA (hbox); have e8 := zi HB hg; have e9 := zi HB hg; replace HB := zh HB hb; have c4 := zA (zL hg (zK a1.out)); have c6 := zA (zJ hg (zK a1.out)); replace a1 := zb a1 hb; have c7 := zA (zL hg (zK a4.out)); have c8 := zA (zJ hg (zK a4.out)); replace a4 := zb a4 hb; clear hb hbox hg; have I6 := c6.out; have I7 := c4.out; have I8 := c8.out; have I9 := c7.out; obtain ⟨J0, J1, J2, J3, J4, J5, J6, J7⟩ := ze4 b0.out; obtain ⟨f2, f3, q9⟩ := Kd.R_slice a7.out; subst q9) | ((with_reducible refine gate_store (t := 32) (p := 9) rfl ?_); refine store_event (t := 32) (p := 9) (v := ?vo_w35) (w1 := ((((q8.setCell ⟨a6, 0, none⟩ (.int .i64 b9)).setCell ⟨a6, 1, none⟩ (.int .i64 c0)).setCell ⟨a6, 2, none⟩ (.int .i64 c1)).setCell ⟨a6, 3, none⟩ (.slice f2 b2.length f3))) ?hg ?ho ?hn ?hr ?_; (case ho => rfl); (case hg => rfl); (case hn => rfl); (case hr => first | (go_simp; done) | (go_simp; rfl)); intro l5 hw; replace a3 : Aside0 (Kd.V Kd.string 9 l5 w.heap.size (fun k_ => (b8 k_ ∨ w.heap.size ≤ k_) ∧ some k_ ≠ (.slice f2 b2.length f3 : Value).ownBlock ∧ k_ ≠ b4 ∧ k_ ≠ b3 ∧ k_ ≠ a6) (.slice b6 a5.length b5) a5) := ⟨(by rw [hw]; exact (zVt (Kd.V_mono (zv4 a3.out (fun _ hk => hk.2)) (fun _ hk => ⟨hk.1.1.1.1, ⟨hk.1.2, ⟨hk.1.1.1.2, ⟨hk.1.1.2, hk.2⟩⟩⟩⟩))))⟩; replace a7 : Aside0 (Kd.R Kd.string 9 l5 w.heap.size (fun k_ => (w.heap.size ≤ k_)) (.slice f2 b2.length f3) b2) := ⟨(by rw [hw]; exact (zR (Kd.R_mono (zr4 a7.out b0.out) (fun _ hk => hk.1))))⟩; replace a1 := zA (zh1 hw (zK a1.out)); replace a4 := zA (zh1 hw (zK a4.out)); replace b0 := zA (zh1 hw (zk4 b0.out)); replace HB := zA (zh2 hw (zW HB.out)); clear hw; obtain ⟨J8, J9, L0, L1, L2, L3, L4, L5⟩ := ze4 a1.out) | ((with_reducible refine gate_dst (N := 26) rfl ?_); refine Kd.N_lit k75 _ 75 ?hg (N' := 26) ?hd (xs := ([(⟨1, (⟨a8, a9, b1, a5⟩ : S32)⟩ : S75)] : List (S75))) (inner := [.int .i64 1, .int .i64 a8, .int .i64 a9, .int .i64 b1, .slice b6 a5.length b5]) (ok := (fun k_ => (b8 k_ ∨ w.heap.size ≤ k_) ∧ some k_ ≠ (.slice f2 b2.length f3 : Value).ownBlock ∧ k_ ≠ b4 ∧ k_ ≠ b3 ∧ k_ ≠ a6)) ?hr ?hp (fun _ hk => hk) ((show ∀ k_, l5.heap.size ≤ k_ → (fun k_ => (b8 k_ ∨ w.heap.size ≤ k_) ∧ some k_ ≠ (.slice f2 b2.length f3 : Value).ownBlock ∧ k_ ≠ b4 ∧ k_ ≠ b3 ∧ k_ ≠ a6) k_ from fun k_ hk => ⟨(.inr (Nat.le_trans (below_size (zW HB.out)) hk)), Kd.fresh' (Kd.R_lt (zR a7.out)) k_ hk, Kd.freshB (g := b4) (o := .cells #[.int .i64 a8, .int .i64 a9, .int .i64 b1, .slice b6 a5.length b5] 32 (0, 0)) (zK a1.out) k_ hk, Kd.freshB (g := b3) (o := .cells #[.int .i64 4, .int .i64 a8, .int .i64 a9, .int .i64 b1, .slice b6 a5.length b5] 75 (0, 0)) (zK a4.out) k_ hk, Kd.freshB (g := a6) (o := .cells #[.int .i64 b9, .int .i64 c0, .int .i64 c1, .slice f2 b2.length f3] 32 (0, 0)) (zK b0.out) k_ hk⟩) _ (Nat.le_refl _)) (Below.refl _ _) (Nat.le_refl _) (by simp) ?_; (case hd => rfl); (case hg => rfl); (case hr => first | (go_simp; done) | (go_simp; rfl)); (case hp => exact (Reps.c5 (show Kd.FK k75 _ _ (⟨1, (⟨a8, a9, b1, a5⟩ : S32)⟩ : S75) [.int .i64 1, .int .i64 a8, .int .i64 a9, .int .i64 b1, .slice b6 a5.length b5] from (k75_mkF _ _ (⟨1, (⟨a8, a9, b1, a5⟩ : S32)⟩ : S75) (Kd.V_reads' (Kd.V_mono (ok' := (fun k_ => (b8 k_ ∨ w.heap.size ≤ k_) ∧ some k_ ≠ (.slice f2 b2.length f3 : Value).ownBlock ∧ k_ ≠ b4 ∧ k_ ≠ b3 ∧ k_ ≠ a6)) (a3.out) (fun k_ hk => ⟨hk.1, ⟨hk.2.1, ⟨hk.2.2.1, ⟨hk.2.2.2.1, hk.2.2.2.2⟩⟩⟩⟩))).2.1 (Kd.V_F (Kd.V_mono (ok' := (fun k_ => (b8 k_ ∨ w.heap.size ≤ k_) ∧ some k_ ≠ (.slice f2 b2.length f3 : Value).ownBlock ∧ k_ ≠ b4 ∧ k_ ≠ b3 ∧ k_ ≠ a6)) (a3.out) (fun k_ hk => ⟨hk.1, ⟨hk.2.1, ⟨hk.2.2.1, ⟨hk.2.2.2.1, hk.2.2.2.2⟩⟩⟩⟩))))) (Reps.none _ _))); intro L6 L7 i6 hb hg_ hnew_; clear hg_ hnew_; (first | rw [← o0.out] at i6 | (simp only [Int.reduceToNat] at i6; rw [← o0.out] at i6)); replace a3 := zA (Kd.V_elder' (zV a3.out) (Kd.N_base i6) hb); replace a7 := zr a7 hb; have r0 := zA (Kd.N_lower i6 (below_size (zW HB.out))); replace a1 := zb a1 hb; replace a4 := zb a4 hb; replace b0 := zb b0 hb; replace HB := zh HB hb; clear hb i6))
   go_ret
   exact ⟨_, zE, zNt (Kd.N_mono r0.out (fun _ hk => hk.1)), zW HB.out⟩
  ·have k3 := beq_eq_false_iff_ne.mpr i5
   have k4 := bne_iff_ne.mpr i5
   replace H := zI1 H
   rcases H with ⟨i7, H⟩ | ⟨i7, H⟩
   ·have l6 := beq_iff_eq.mpr i7
    have l7 := bne_eq_false_iff_eq.mpr i7
    clear i7
    go_enter Tryz.func169, Tryz.ntmps169
    go_upto_if 29 with (first | ((with_reducible refine zd 4 ?_); refine ze 4 32 #[.int .i64 a8, .int .i64 a9, .int .i64 b1, .slice b6 a5.length b5] ?_; intro b4 hg L8 hbox hb; replace a3 := zA (Kd.V_below (Kd.V_elderB (zV a3.out) b4 (Nat.le_of_eq hg.symm)) hb); have a1 := zA (hbox); have e3 := zi HB hg; have e4 := zi HB hg; replace HB := zA (below_step (zB) hb); clear hb hbox hg; obtain ⟨L9, M0, M1, M2, M3, M4, M5, M6⟩ := ze4 a1.out) | ((with_reducible refine zd 7 ?_); refine ze 7 75 #[.int .i64 0, .int .i64 0, .int .i64 0, .int .i64 0, .slice none 0 0] ?_; intro b3 hg M7 hbox hb; replace a3 := zA (Kd.V_below (Kd.V_elderB (zV a3.out) b3 (Nat.le_of_eq hg.symm)) hb); have a4 := zA (hbox); have e5 := zi HB hg; have e6 := zi HB hg; replace HB := zh HB hb; have c2 := zA (zL hg (zK a1.out)); have c3 := zA (zJ hg (zK a1.out)); replace a1 := zb a1 hb; clear hb hbox hg; have M8 := c3.out; have M9 := c2.out; obtain ⟨N0, N1, N2, N3, N4, N5, N6, N7, N8, N9⟩ := ze5 a4.out; obtain ⟨O0, O1, O2, O3, O4, O5, O6, O7⟩ := ze4 a1.out) | ((with_reducible refine zq 191 ?_); refine zg (some 16) Tryz.func191 #[.agg #[.int .i64 a8, .int .i64 a9, .int .i64 b1, .slice b6 a5.length b5], .int .i64 a2] ?_; (with_reducible refine (impl_nextOf.calls a8 a9 b1 _ _ a5 a2 b9 c0 c1 b2 _ ?side1 ?side2 A4.out).mono ?_); (case side1 => refine (Kd.V_reads' (e := 9) (base := w.heap.size) (ok := fun k_ => (((b8 k_ ∨ w.heap.size ≤ k_) ∧ k_ ≠ b4) ∧ k_ ≠ b3)) (n := a5.length) (c := b5) ?_).2.2; exact (zVt (zv5 a3.out (fun _ hk => hk.2)))); (case side2 => exact (Kd.V_reads' a3.out).2.1); rintro e O8 ⟨e7, rfl, b7, hb⟩; refine ⟨_, rfl, ?_⟩; replace a3 := zA (Kd.V_elder' (zVt (zv5 a3.out (fun _ hk => hk.2))) (Kd.R_base b7) hb); have a7 := zA (Kd.R_lower (Kd.R_newM (M := fun k_ => (w.heap.size ≤ k_)) b7 (below_size (zW HB.out)) (fun k_ h_ => h_)) (below_size (zW HB.out))); replace a1 := zb a1 hb; replace a4 := zA (blk_below (zk5 a4.out) hb); replace HB := zh HB hb; (try clear hb b7)) | ((with_reducible refine zd 9 ?_); refine ze 9 32 #[.int .i64 0, .int .i64 0, .int .i64 0, .slice none 0 0] ?_; intro a6 hg r1 hbox hb; replace a3 := zA (Kd.V_below (Kd.V_elderB (zV a3.out) a6 (Nat.le_of_eq hg.symm)) hb); replace a7 := zr a7 hb; have b0 := zA (hbox); have e8 := zi HB hg; have e9 := zi HB hg; replace HB := zh HB hb; have c4 := zA (zL hg (zK a1.out)); have c6 := zA (zJ hg (zK a1.out)); replace a1 := zb a1 hb; have c7 := zA (zL hg (zK a4.out)); have c8 := zA (zJ hg (zK a4.out)); replace a4 := zb a4 hb; clear hb hbox hg; have O9 := c6.out; have P0 := c4.out; have P1 := c8.out; have P2 := c7.out; obtain ⟨P3, P4, P5, P6, P7, P8, P9, Q0⟩ := ze4 b0.out; obtain ⟨d1, d2, r2⟩ := Kd.R_slice a7.out; subst r2) | ((with_reducible refine gate_store (t := 32) (p := 9) rfl ?_); refine store_event (t := 32) (p := 9) (v := ?vo_w53) (w1 := ((((r1.setCell ⟨a6, 0, none⟩ (.int .i64 b9)).setCell ⟨a6, 1, none⟩ (.int .i64 c0)).setCell ⟨a6, 2, none⟩ (.int .i64 c1)).setCell ⟨a6, 3, none⟩ (.slice d1 b2.length d2))) ?hg ?ho ?hn ?hr ?_; (case ho => rfl); (case hg => rfl); (case hn => rfl); (case hr => first | (go_simp; done) | (go_simp; rfl)); intro k6 hw; replace a3 : Aside0 (Kd.V Kd.string 9 k6 w.heap.size (fun k_ => (b8 k_ ∨ w.heap.size ≤ k_) ∧ some k_ ≠ (.slice d1 b2.length d2 : Value).ownBlock ∧ k_ ≠ b4 ∧ k_ ≠ b3 ∧ k_ ≠ a6) (.slice b6 a5.length b5) a5) := ⟨(by rw [hw]; exact (zVt (Kd.V_mono (zv4 a3.out (fun _ hk => hk.2)) (fun _ hk => ⟨hk.1.1.1.1, ⟨hk.1.2, ⟨hk.1.1.1.2, ⟨hk.1.1.2, hk.2⟩⟩⟩⟩))))⟩; replace a7 : Aside0 (Kd.R Kd.string 9 k6 w.heap.size (fun k_ => (w.heap.size ≤ k_)) (.slice d1 b2.length d2) b2) := ⟨(by rw [hw]; exact (zR (Kd.R_mono (zr4 a7.out b0.out) (fun _ hk => hk.1))))⟩; replace a1 := zA (zh1 hw (zK a1.out)); replace a4 := zA (zh1 hw (zK a4.out)); replace b0 := zA (zh1 hw (zk4 b0.out)); replace HB := zA (zh2 hw (zW HB.out)); clear hw))
    (try simp only [Act.put, zT])
    replace H := zI0 H
    rcases H with ⟨l8, H⟩ | ⟨l8, H⟩
    ·obtain ⟨r3, l9⟩ : ∃ y_ : List (S75), y_ = (([(⟨4, (⟨b9, c0, c1, b2⟩ : S32)⟩ : S75)] : List (S75))) := ⟨_, rfl⟩
     replace H : (some r3) = some r := zY l9 H
     have o1 := Aside0.mk l9
     clear l9
     obtain rfl := Option.some.inj H
     obtain ⟨Q1, Q2, Q3, Q4, Q5, Q6, Q7, Q8⟩ := ze4 b0.out
     (try simp only [k1, k2, k1, k2, k3, k4, k3, k4, l6, l7, l8])
     go_wp2_with (first | ((with_reducible refine gate_dst (N := 32) rfl ?_); refine Kd.N_lit k75 _ 75 ?hg (N' := 32) ?hd (xs := ([(⟨4, (⟨b9, c0, c1, b2⟩ : S32)⟩ : S75)] : List (S75))) (inner := [.int .i64 4, .int .i64 b9, .int .i64 c0, .int .i64 c1, .slice d1 b2.length d2]) (ok := (fun k_ => (b8 k_ ∨ w.heap.size ≤ k_) ∧ k_ ≠ b4 ∧ k_ ≠ b3 ∧ k_ ≠ a6)) ?hr ?hp (fun _ hk => hk) ((show ∀ k_, k6.heap.size ≤ k_ → (fun k_ => (b8 k_ ∨ w.heap.size ≤ k_) ∧ k_ ≠ b4 ∧ k_ ≠ b3 ∧ k_ ≠ a6) k_ from fun k_ hk => ⟨(.inr (Nat.le_trans (below_size (zW HB.out)) hk)), Kd.freshB (g := b4) (o := .cells #[.int .i64 a8, .int .i64 a9, .int .i64 b1, .slice b6 a5.length b5] 32 (0, 0)) (zK a1.out) k_ hk, Kd.freshB (g := b3) (o := .cells #[.int .i64 4, .int .i64 a8, .int .i64 a9, .int .i64 b1, .slice b6 a5.length b5] 75 (0, 0)) (zK a4.out) k_ hk, Kd.freshB (g := a6) (o := .cells #[.int .i64 b9, .int .i64 c0, .int .i64 c1, .slice d1 b2.length d2] 32 (0, 0)) (zK b0.out) k_ hk⟩) _ (Nat.le_refl _)) (Below.refl _ _) (Nat.le_refl _) (by simp) ?_; (case hd => rfl); (case hg => rfl); (case hr => first | (go_simp; done) | (go_simp; rfl)); (case hp => exact (Reps.c5 (show Kd.FK k75 _ _ (⟨4, (⟨b9, c0, c1, b2⟩ : S32)⟩ : S75) [.int .i64 4, .int .i64 b9, .int .i64 c0, .int .i64 c1, .slice d1 b2.length d2] from (k75_mkF _ _ (⟨4, (⟨b9, c0, c1, b2⟩ : S32)⟩ : S75) (Kd.R_reads' (Kd.R_mono (ok' := (fun k_ => (b8 k_ ∨ w.heap.size ≤ k_) ∧ k_ ≠ b4 ∧ k_ ≠ b3 ∧ k_ ≠ a6)) (Kd.R_types (Kd.R_types (Kd.R_types (a7.out) a1.out (by decide)) a4.out (by decide)) b0.out (by decide)) (fun k_ hk => ⟨(.inr (hk.1.1.1)), ⟨hk.1.1.2, ⟨hk.1.2, hk.2⟩⟩⟩))).2.1 (Kd.R_F (Kd.R_mono (ok' := (fun k_ => (b8 k_ ∨ w.heap.size ≤ k_) ∧ k_ ≠ b4 ∧ k_ ≠ b3 ∧ k_ ≠ a6)) (Kd.R_types (Kd.R_types (Kd.R_types (a7.out) a1.out (by decide)) a4.out (by decide)) b0.out (by decide)) (fun k_ hk => ⟨(.inr (hk.1.1.1)), ⟨hk.1.1.2, ⟨hk.1.2, hk.2⟩⟩⟩))))) (Reps.none _ _))); intro Q9 R0 i8 hb hg_ hnew_; clear hg_ hnew_; (first | rw [← o1.out] at i8 | (simp only [Int.reduceToNat] at i8; rw [← o1.out] at i8)); replace a3 := zA (Kd.V_elder' (zV a3.out) (Kd.N_base i8) hb); have r4 := zA (Kd.N_lower i8 (below_size (zW HB.out))); replace a1 := zb a1 hb; replace a4 := zb a4 hb; replace b0 := zb b0 hb; replace HB := zh HB hb; clear a7; clear hb i8))
     go_ret
     exact ⟨_, zE, zNt (Kd.N_mono r4.out (fun _ hk => hk.1)), zW HB.out⟩
    ·obtain ⟨r5, m0⟩ : ∃ y_ : List (S75), y_ = (([(⟨3, (⟨a8, a9, b1, a5⟩ : S32)⟩ : S75)] : List (S75))) := ⟨_, rfl⟩
     replace H : (some r5) = some r := zY m0 H
     have o2 := Aside0.mk m0
     clear m0
     obtain rfl := Option.some.inj H
     obtain ⟨R1, R2, R3, R4, R5, R6, R7, R8⟩ := ze4 a1.out
     (try simp only [k1, k2, k1, k2, k3, k4, k3, k4, l6, l7, l8])
     go_wp2_with (first | ((with_reducible refine gate_dst (N := 35) rfl ?_); refine Kd.N_lit k75 _ 75 ?hg (N' := 35) ?hd (xs := ([(⟨3, (⟨a8, a9, b1, a5⟩ : S32)⟩ : S75)] : List (S75))) (inner := [.int .i64 3, .int .i64 a8, .int .i64 a9, .int .i64 b1, .slice b6 a5.length b5]) (ok := (fun k_ => (b8 k_ ∨ w.heap.size ≤ k_) ∧ some k_ ≠ (.slice d1 b2.length d2 : Value).ownBlock ∧ k_ ≠ b4 ∧ k_ ≠ b3 ∧ k_ ≠ a6)) ?hr ?hp (fun _ hk => hk) ((show ∀ k_, k6.heap.size ≤ k_ → (fun k_ => (b8 k_ ∨ w.heap.size ≤ k_) ∧ some k_ ≠ (.slice d1 b2.length d2 : Value).ownBlock ∧ k_ ≠ b4 ∧ k_ ≠ b3 ∧ k_ ≠ a6) k_ from fun k_ hk => ⟨(.inr (Nat.le_trans (below_size (zW HB.out)) hk)), Kd.fresh' (Kd.R_lt (zR a7.out)) k_ hk, Kd.freshB (g := b4) (o := .cells #[.int .i64 a8, .int .i64 a9, .int .i64 b1, .slice b6 a5.length b5] 32 (0, 0)) (zK a1.out) k_ hk, Kd.freshB (g := b3) (o := .cells #[.int .i64 4, .int .i64 a8, .int .i64 a9, .int .i64 b1, .slice b6 a5.length b5] 75 (0, 0)) (zK a4.out) k_ hk, Kd.freshB (g := a6) (o := .cells #[.int .i64 b9, .int .i64 c0, .int .i64 c1, .slice d1 b2.length d2] 32 (0, 0)) (zK b0.out) k_ hk⟩) _ (Nat.le_refl _)) (Below.refl _ _) (Nat.le_refl _) (by simp) ?_; (case hd => rfl); (case hg => rfl); (case hr => first | (go_simp; done) | (go_simp; rfl)); (case hp => exact (Reps.c5 (show Kd.FK k75 _ _ (⟨3, (⟨a8, a9, b1, a5⟩ : S32)⟩ : S75) [.int .i64 3, .int .i64 a8, .int .i64 a9, .int .i64 b1, .slice b6 a5.length b5] from (k75_mkF _ _ (⟨3, (⟨a8, a9, b1, a5⟩ : S32)⟩ : S75) (Kd.V_reads' (Kd.V_mono (ok' := (fun k_ => (b8 k_ ∨ w.heap.size ≤ k_) ∧ some k_ ≠ (.slice d1 b2.length d2 : Value).ownBlock ∧ k_ ≠ b4 ∧ k_ ≠ b3 ∧ k_ ≠ a6)) (a3.out) (fun k_ hk => ⟨hk.1, ⟨hk.2.1, ⟨hk.2.2.1, ⟨hk.2.2.2.1, hk.2.2.2.2⟩⟩⟩⟩))).2.1 (Kd.V_F (Kd.V_mono (ok' := (fun k_ => (b8 k_ ∨ w.heap.size ≤ k_) ∧ some k_ ≠ (.slice d1 b2.length d2 : Value).ownBlock ∧ k_ ≠ b4 ∧ k_ ≠ b3 ∧ k_ ≠ a6)) (a3.out) (fun k_ hk => ⟨hk.1, ⟨hk.2.1, ⟨hk.2.2.1, ⟨hk.2.2.2.1, hk.2.2.2.2⟩⟩⟩⟩))))) (Reps.none _ _))); intro R9 T0 i9 hb hg_ hnew_; clear hg_ hnew_; (first | rw [← o2.out] at i9 | (simp only [Int.reduceToNat] at i9; rw [← o2.out] at i9)); replace a3 := zA (Kd.V_elder' (zV a3.out) (Kd.N_base i9) hb); replace a7 := zr a7 hb; have r6 := zA (Kd.N_lower i9 (below_size (zW HB.out))); replace a1 := zb a1 hb; replace a4 := zb a4 hb; replace b0 := zb b0 hb; replace HB := zh HB hb; clear hb i9))
     go_ret
     exact ⟨_, zE, zNt (Kd.N_mono r6.out (fun _ hk => hk.1)), zW HB.out⟩
   ·have l6 := beq_eq_false_iff_ne.mpr i7
    have l7 := bne_iff_ne.mpr i7
    replace H := zI1 H
    rcases H with ⟨j0, H⟩ | ⟨j0, H⟩
    ·have r7 := beq_iff_eq.mpr j0
     have r8 := bne_eq_false_iff_eq.mpr j0
     clear j0
     replace H := zI0 H
     rcases H with ⟨r9, H⟩ | ⟨r9, H⟩
     ·replace H := zj H
      obtain ⟨⟨f8, f9, g0, g1, g2⟩, t0, H⟩ := H
      try dsimp only at H
      obtain ⟨t1, m1⟩ : ∃ y_ : List (S75), y_ = (([(⟨f8, (⟨f9, g0, g1, g2⟩ : S32)⟩ : S75)] : List (S75))) := ⟨_, rfl⟩
      replace H : (some t1) = some r := zY m1 H
      have o3 := Aside0.mk m1
      clear m1
      obtain rfl := Option.some.inj H
      go_enter Tryz.func169, Tryz.ntmps169
      go_wp2_with (first | ((with_reducible refine zd 4 ?_); refine ze 4 32 #[.int .i64 a8, .int .i64 a9, .int .i64 b1, .slice b6 a5.length b5] ?_; intro b4 hg T1 hbox hb; replace a3 := zA (Kd.V_below (Kd.V_elderB (zV a3.out) b4 (Nat.le_of_eq hg.symm)) hb); have a1 := zA (hbox); have e3 := zi HB hg; have e4 := zi HB hg; replace HB := zA (below_step (zB) hb); clear hb hbox hg; obtain ⟨T2, T3, T4, T5, T6, T7, T8, T9⟩ := ze4 a1.out) | ((with_reducible refine zd 7 ?_); refine ze 7 75 #[.int .i64 0, .int .i64 0, .int .i64 0, .int .i64 0, .slice none 0 0] ?_; intro b3 hg U0 hbox hb; replace a3 := zA (Kd.V_below (Kd.V_elderB (zV a3.out) b3 (Nat.le_of_eq hg.symm)) hb); have a4 := zA (hbox); have e5 := zi HB hg; have e6 := zi HB hg; replace HB := zh HB hb; have c2 := zA (zL hg (zK a1.out)); have c3 := zA (zJ hg (zK a1.out)); replace a1 := zb a1 hb; clear hb hbox hg; have U1 := c3.out; have U2 := c2.out; obtain ⟨U3, U4, U5, U6, U7, U8, U9, V0, V1, V2⟩ := ze5 a4.out; obtain ⟨V3, V4, V5, V6, V7, V8, V9, X0⟩ := ze4 a1.out) | ((with_reducible refine zq 191 ?_); refine zg (some 16) Tryz.func191 #[.agg #[.int .i64 a8, .int .i64 a9, .int .i64 b1, .slice b6 a5.length b5], .int .i64 a2] ?_; (with_reducible refine (impl_nextOf.calls a8 a9 b1 _ _ a5 a2 b9 c0 c1 b2 _ ?side1 ?side2 A4.out).mono ?_); (case side1 => refine (Kd.V_reads' (e := 9) (base := w.heap.size) (ok := fun k_ => (((b8 k_ ∨ w.heap.size ≤ k_) ∧ k_ ≠ b4) ∧ k_ ≠ b3)) (n := a5.length) (c := b5) ?_).2.2; exact (zVt (zv5 a3.out (fun _ hk => hk.2)))); (case side2 => exact (Kd.V_reads' a3.out).2.1); rintro e X1 ⟨e7, rfl, b7, hb⟩; refine ⟨_, rfl, ?_⟩; replace a3 := zA (Kd.V_elder' (zVt (zv5 a3.out (fun _ hk => hk.2))) (Kd.R_base b7) hb); have a7 := zA (Kd.R_lower (Kd.R_newM (M := fun k_ => (w.heap.size ≤ k_)) b7 (below_size (zW HB.out)) (fun k_ h_ => h_)) (below_size (zW HB.out))); replace a1 := zb a1 hb; replace a4 := zA (blk_below (zk5 a4.out) hb); replace HB := zh HB hb; (try clear hb b7)) | ((with_reducible refine zd 9 ?_); refine ze 9 32 #[.int .i64 0, .int .i64 0, .int .i64 0, .slice none 0 0] ?_; intro a6 hg X2 hbox hb; replace a3 := zA (Kd.V_below (Kd.V_elderB (zV a3.out) a6 (Nat.le_of_eq hg.symm)) hb); replace a7 := zr a7 hb; have b0 := zA (hbox); have e8 := zi HB hg; have e9 := zi HB hg; replace HB := zh HB hb; have c4 := zA (zL hg (zK a1.out)); have c6 := zA (zJ hg (zK a1.out)); replace a1 := zb a1 hb; have c7 := zA (zL hg (zK a4.out)); have c8 := zA (zJ hg (zK a4.out)); replace a4 := zb a4 hb; clear hb hbox hg; have X3 := c6.out; have X4 := c4.out; have X5 := c8.out; have X6 := c7.out; obtain ⟨X7, X8, X9, Y0, Y1, Y2, Y3, Y4⟩ := ze4 b0.out; obtain ⟨j1, g3, t2⟩ := Kd.R_slice a7.out; subst t2) | ((with_reducible refine zq 192 ?_); refine zg (some 40) Tryz.func192 #[.agg #[.int .i64 b9, .int .i64 c0, .int .i64 c1, .slice j1 b2.length g3]] ?_; (with_reducible refine (impl_below.calls b9 c0 c1 _ _ b2 f8 f9 g0 g1 g2 _ ?side1 ?side2 t0.out).mono ?_); (case side1 => refine (Kd.R_reads' (e := 9) (base := w.heap.size) (ok := fun k_ => ((w.heap.size ≤ k_) ∧ True)) (n := b2.length) (c := g3) ?_).2.2; exact (zR (zr4 a7.out b0.out))); (case side2 => exact (Kd.R_reads' a7.out).2.1); rintro e t3 ⟨Y5, rfl, b7, hb⟩; refine ⟨_, rfl, ?_⟩; replace a3 := zA (Kd.V_elder' (zVt (zv4 a3.out (fun _ hk => hk.2))) (Kd.R_base b7) hb); have k7 := zA (Kd.R_lower (Kd.R_new' (Kd.R_newM (M := fun k_ => (w.heap.size ≤ k_)) b7 (below_size (zW HB.out)) (fun k_ h_ => h_)) (Kd.R_lt (zR (zr4 a7.out b0.out)))) (below_size (zW HB.out))); replace a7 := zA (Kd.R_elder' (zR (zr4 a7.out b0.out)) (Kd.R_base b7) hb); replace a1 := zb a1 hb; replace a4 := zb a4 hb; replace b0 := zA (blk_below (zk4 b0.out) hb); replace HB := zh HB hb; (try clear hb b7); obtain ⟨o4, o5, t4⟩ := Kd.R_slice k7.out; subst t4) | ((with_reducible refine gate_dst (N := 41) rfl ?_); refine Kd.N_lit k75 _ 75 ?hg (N' := 41) ?hd (xs := ([(⟨f8, (⟨f9, g0, g1, g2⟩ : S32)⟩ : S75)] : List (S75))) (inner := [.int .i64 f8, .int .i64 f9, .int .i64 g0, .int .i64 g1, .slice o4 g2.length o5]) (ok := (fun k_ => (b8 k_ ∨ w.heap.size ≤ k_) ∧ some k_ ≠ (.slice j1 b2.length g3 : Value).ownBlock ∧ k_ ≠ b4 ∧ k_ ≠ b3 ∧ k_ ≠ a6)) ?hr ?hp (fun _ hk => hk) ((show ∀ k_, t3.heap.size ≤ k_ → (fun k_ => (b8 k_ ∨ w.heap.size ≤ k_) ∧ some k_ ≠ (.slice j1 b2.length g3 : Value).ownBlock ∧ k_ ≠ b4 ∧ k_ ≠ b3 ∧ k_ ≠ a6) k_ from fun k_ hk => ⟨(.inr (Nat.le_trans (below_size (zW HB.out)) hk)), Kd.fresh' (Kd.R_lt (zR a7.out)) k_ hk, Kd.freshB (g := b4) (o := .cells #[.int .i64 a8, .int .i64 a9, .int .i64 b1, .slice b6 a5.length b5] 32 (0, 0)) (zK a1.out) k_ hk, Kd.freshB (g := b3) (o := .cells #[.int .i64 4, .int .i64 a8, .int .i64 a9, .int .i64 b1, .slice b6 a5.length b5] 75 (0, 0)) (zK a4.out) k_ hk, Kd.freshB (g := a6) (o := .cells #[.int .i64 b9, .int .i64 c0, .int .i64 c1, .slice j1 b2.length g3] 32 (0, 0)) (zK b0.out) k_ hk⟩) _ (Nat.le_refl _)) (Below.refl _ _) (Nat.le_refl _) (by simp) ?_; (case hd => rfl); (case hg => rfl); (case hr => first | (go_simp; done) | (go_simp; rfl)); (case hp => exact (Reps.c5 (show Kd.FK k75 _ _ (⟨f8, (⟨f9, g0, g1, g2⟩ : S32)⟩ : S75) [.int .i64 f8, .int .i64 f9, .int .i64 g0, .int .i64 g1, .slice o4 g2.length o5] from (k75_mkF _ _ (⟨f8, (⟨f9, g0, g1, g2⟩ : S32)⟩ : S75) (Kd.R_reads' (Kd.R_mono (ok' := (fun k_ => (b8 k_ ∨ w.heap.size ≤ k_) ∧ some k_ ≠ (.slice j1 b2.length g3 : Value).ownBlock ∧ k_ ≠ b4 ∧ k_ ≠ b3 ∧ k_ ≠ a6)) (Kd.R_types (Kd.R_types (Kd.R_types (k7.out) a1.out (by decide)) a4.out (by decide)) b0.out (by decide)) (fun k_ hk => ⟨(.inr (hk.1.1.1.1.1)), ⟨hk.1.1.1.2, ⟨hk.1.1.2, ⟨hk.1.2, hk.2⟩⟩⟩⟩))).2.1 (Kd.R_F (Kd.R_mono (ok' := (fun k_ => (b8 k_ ∨ w.heap.size ≤ k_) ∧ some k_ ≠ (.slice j1 b2.length g3 : Value).ownBlock ∧ k_ ≠ b4 ∧ k_ ≠ b3 ∧ k_ ≠ a6)) (Kd.R_types (Kd.R_types (Kd.R_types (k7.out) a1.out (by decide)) a4.out (by decide)) b0.out (by decide)) (fun k_ hk => ⟨(.inr (hk.1.1.1.1.1)), ⟨hk.1.1.1.2, ⟨hk.1.1.2, ⟨hk.1.2, hk.2⟩⟩⟩⟩))))) (Reps.none _ _))); intro Y6 Y7 j2 hb hg_ hnew_; clear hg_ hnew_; (first | rw [← o3.out] at j2 | (simp only [Int.reduceToNat] at j2; rw [← o3.out] at j2)); replace a3 := zA (Kd.V_elder' (zV a3.out) (Kd.N_base j2) hb); replace a7 := zr a7 hb; have t5 := zA (Kd.N_lower j2 (below_size (zW HB.out))); replace a1 := zb a1 hb; replace a4 := zb a4 hb; replace b0 := zb b0 hb; replace HB := zh HB hb; clear k7; clear hb j2))
      go_ret
      exact ⟨_, zE, zNt (Kd.N_mono t5.out (fun _ hk => hk.1)), zW HB.out⟩
     ·obtain ⟨t6, m2⟩ : ∃ y_ : List (S75), y_ = (([(⟨2, (⟨a8, a9, b1, a5⟩ : S32)⟩ : S75)] : List (S75))) := ⟨_, rfl⟩
      replace H : (some t6) = some r := zY m2 H
      have o6 := Aside0.mk m2
      clear m2
      obtain rfl := Option.some.inj H
      go_enter Tryz.func169, Tryz.ntmps169
      go_wp2_with (first | ((with_reducible refine zd 4 ?_); refine ze 4 32 #[.int .i64 a8, .int .i64 a9, .int .i64 b1, .slice b6 a5.length b5] ?_; intro b4 hg Y8 hbox hb; replace a3 := zA (Kd.V_below (Kd.V_elderB (zV a3.out) b4 (Nat.le_of_eq hg.symm)) hb); have a1 := zA (hbox); have e3 := zi HB hg; have e4 := zi HB hg; replace HB := zA (below_step (zB) hb); clear hb hbox hg; obtain ⟨Y9, Z0, Z1, Z2, Z3, Z4, Z5, Z6⟩ := ze4 a1.out) | ((with_reducible refine zd 7 ?_); refine ze 7 75 #[.int .i64 0, .int .i64 0, .int .i64 0, .int .i64 0, .slice none 0 0] ?_; intro b3 hg Z7 hbox hb; replace a3 := zA (Kd.V_below (Kd.V_elderB (zV a3.out) b3 (Nat.le_of_eq hg.symm)) hb); have a4 := zA (hbox); have e5 := zi HB hg; have e6 := zi HB hg; replace HB := zh HB hb; have c2 := zA (zL hg (zK a1.out)); have c3 := zA (zJ hg (zK a1.out)); replace a1 := zb a1 hb; clear hb hbox hg; have Z8 := c3.out; have Z9 := c2.out; obtain ⟨a00, a01, a02, a03, a04, a05, a06, a07, a08, a09⟩ := ze5 a4.out; obtain ⟨a0a, a0b, a0c, a0d, a0e, a0f, a0g, a0h⟩ := ze4 a1.out) | ((with_reducible refine zq 191 ?_); refine zg (some 16) Tryz.func191 #[.agg #[.int .i64 a8, .int .i64 a9, .int .i64 b1, .slice b6 a5.length b5], .int .i64 a2] ?_; (with_reducible refine (impl_nextOf.calls a8 a9 b1 _ _ a5 a2 b9 c0 c1 b2 _ ?side1 ?side2 A4.out).mono ?_); (case side1 => refine (Kd.V_reads' (e := 9) (base := w.heap.size) (ok := fun k_ => (((b8 k_ ∨ w.heap.size ≤ k_) ∧ k_ ≠ b4) ∧ k_ ≠ b3)) (n := a5.length) (c := b5) ?_).2.2; exact (zVt (zv5 a3.out (fun _ hk => hk.2)))); (case side2 => exact (Kd.V_reads' a3.out).2.1); rintro e w98 ⟨e7, rfl, b7, hb⟩; refine ⟨_, rfl, ?_⟩; replace a3 := zA (Kd.V_elder' (zVt (zv5 a3.out (fun _ hk => hk.2))) (Kd.R_base b7) hb); have a7 := zA (Kd.R_lower (Kd.R_newM (M := fun k_ => (w.heap.size ≤ k_)) b7 (below_size (zW HB.out)) (fun k_ h_ => h_)) (below_size (zW HB.out))); replace a1 := zb a1 hb; replace a4 := zA (blk_below (zk5 a4.out) hb); replace HB := zh HB hb; (try clear hb b7)) | ((with_reducible refine zd 9 ?_); refine ze 9 32 #[.int .i64 0, .int .i64 0, .int .i64 0, .slice none 0 0] ?_; intro a6 hg t7 hbox hb; replace a3 := zA (Kd.V_below (Kd.V_elderB (zV a3.out) a6 (Nat.le_of_eq hg.symm)) hb); replace a7 := zr a7 hb; have b0 := zA (hbox); have e8 := zi HB hg; have e9 := zi HB hg; replace HB := zh HB hb; have c4 := zA (zL hg (zK a1.out)); have c6 := zA (zJ hg (zK a1.out)); replace a1 := zb a1 hb; have c7 := zA (zL hg (zK a4.out)); have c8 := zA (zJ hg (zK a4.out)); replace a4 := zb a4 hb; clear hb hbox hg; have a0j := c6.out; have a0k := c4.out; have a0l := c8.out; have a0m := c7.out; obtain ⟨a0n, a0o, a0p, a0q, a0r, a0s, a0t, a0v⟩ := ze4 b0.out; obtain ⟨f4, f5, t8⟩ := Kd.R_slice a7.out; subst t8) | ((with_reducible refine gate_store (t := 32) (p := 9) rfl ?_); refine store_event (t := 32) (p := 9) (v := ?vo_w104) (w1 := ((((t7.setCell ⟨a6, 0, none⟩ (.int .i64 b9)).setCell ⟨a6, 1, none⟩ (.int .i64 c0)).setCell ⟨a6, 2, none⟩ (.int .i64 c1)).setCell ⟨a6, 3, none⟩ (.slice f4 b2.length f5))) ?hg ?ho ?hn ?hr ?_; (case ho => rfl); (case hg => rfl); (case hn => rfl); (case hr => first | (go_simp; done) | (go_simp; rfl)); intro m3 hw; replace a3 : Aside0 (Kd.V Kd.string 9 m3 w.heap.size (fun k_ => (b8 k_ ∨ w.heap.size ≤ k_) ∧ some k_ ≠ (.slice f4 b2.length f5 : Value).ownBlock ∧ k_ ≠ b4 ∧ k_ ≠ b3 ∧ k_ ≠ a6) (.slice b6 a5.length b5) a5) := ⟨(by rw [hw]; exact (zVt (Kd.V_mono (zv4 a3.out (fun _ hk => hk.2)) (fun _ hk => ⟨hk.1.1.1.1, ⟨hk.1.2, ⟨hk.1.1.1.2, ⟨hk.1.1.2, hk.2⟩⟩⟩⟩))))⟩; replace a7 : Aside0 (Kd.R Kd.string 9 m3 w.heap.size (fun k_ => (w.heap.size ≤ k_)) (.slice f4 b2.length f5) b2) := ⟨(by rw [hw]; exact (zR (Kd.R_mono (zr4 a7.out b0.out) (fun _ hk => hk.1))))⟩; replace a1 := zA (zh1 hw (zK a1.out)); replace a4 := zA (zh1 hw (zK a4.out)); replace b0 := zA (zh1 hw (zk4 b0.out)); replace HB := zA (zh2 hw (zW HB.out)); clear hw; obtain ⟨a0x, a0y, a0z, a10, a11, a12, a13, a14⟩ := ze4 a1.out) | ((with_reducible refine gate_dst (N := 44) rfl ?_); refine Kd.N_lit k75 _ 75 ?hg (N' := 44) ?hd (xs := ([(⟨2, (⟨a8, a9, b1, a5⟩ : S32)⟩ : S75)] : List (S75))) (inner := [.int .i64 2, .int .i64 a8, .int .i64 a9, .int .i64 b1, .slice b6 a5.length b5]) (ok := (fun k_ => (b8 k_ ∨ w.heap.size ≤ k_) ∧ some k_ ≠ (.slice f4 b2.length f5 : Value).ownBlock ∧ k_ ≠ b4 ∧ k_ ≠ b3 ∧ k_ ≠ a6)) ?hr ?hp (fun _ hk => hk) ((show ∀ k_, m3.heap.size ≤ k_ → (fun k_ => (b8 k_ ∨ w.heap.size ≤ k_) ∧ some k_ ≠ (.slice f4 b2.length f5 : Value).ownBlock ∧ k_ ≠ b4 ∧ k_ ≠ b3 ∧ k_ ≠ a6) k_ from fun k_ hk => ⟨(.inr (Nat.le_trans (below_size (zW HB.out)) hk)), Kd.fresh' (Kd.R_lt (zR a7.out)) k_ hk, Kd.freshB (g := b4) (o := .cells #[.int .i64 a8, .int .i64 a9, .int .i64 b1, .slice b6 a5.length b5] 32 (0, 0)) (zK a1.out) k_ hk, Kd.freshB (g := b3) (o := .cells #[.int .i64 4, .int .i64 a8, .int .i64 a9, .int .i64 b1, .slice b6 a5.length b5] 75 (0, 0)) (zK a4.out) k_ hk, Kd.freshB (g := a6) (o := .cells #[.int .i64 b9, .int .i64 c0, .int .i64 c1, .slice f4 b2.length f5] 32 (0, 0)) (zK b0.out) k_ hk⟩) _ (Nat.le_refl _)) (Below.refl _ _) (Nat.le_refl _) (by simp) ?_; (case hd => rfl); (case hg => rfl); (case hr => first | (go_simp; done) | (go_simp; rfl)); (case hp => exact (Reps.c5 (show Kd.FK k75 _ _ (⟨2, (⟨a8, a9, b1, a5⟩ : S32)⟩ : S75) [.int .i64 2, .int .i64 a8, .int .i64 a9, .int .i64 b1, .slice b6 a5.length b5] from (k75_mkF _ _ (⟨2, (⟨a8, a9, b1, a5⟩ : S32)⟩ : S75) (Kd.V_reads' (Kd.V_mono (ok' := (fun k_ => (b8 k_ ∨ w.heap.size ≤ k_) ∧ some k_ ≠ (.slice f4 b2.length f5 : Value).ownBlock ∧ k_ ≠ b4 ∧ k_ ≠ b3 ∧ k_ ≠ a6)) (a3.out) (fun k_ hk => ⟨hk.1, ⟨hk.2.1, ⟨hk.2.2.1, ⟨hk.2.2.2.1, hk.2.2.2.2⟩⟩⟩⟩))).2.1 (Kd.V_F (Kd.V_mono (ok' := (fun k_ => (b8 k_ ∨ w.heap.size ≤ k_) ∧ some k_ ≠ (.slice f4 b2.length f5 : Value).ownBlock ∧ k_ ≠ b4 ∧ k_ ≠ b3 ∧ k_ ≠ a6)) (a3.out) (fun k_ hk => ⟨hk.1, ⟨hk.2.1, ⟨hk.2.2.1, ⟨hk.2.2.2.1, hk.2.2.2.2⟩⟩⟩⟩))))) (Reps.none _ _))); intro a15 a16 j3 hb hg_ hnew_; clear hg_ hnew_; (first | rw [← o6.out] at j3 | (simp only [Int.reduceToNat] at j3; rw [← o6.out] at j3)); replace a3 := zA (Kd.V_elder' (zV a3.out) (Kd.N_base j3) hb); replace a7 := zr a7 hb; have t9 := zA (Kd.N_lower j3 (below_size (zW HB.out))); replace a1 := zb a1 hb; replace a4 := zb a4 hb; replace b0 := zb b0 hb; replace HB := zh HB hb; clear hb j3))
      go_ret
      exact ⟨_, zE, zNt (Kd.N_mono t9.out (fun _ hk => hk.1)), zW HB.out⟩
    ·have r7 := beq_eq_false_iff_ne.mpr j0
     have r8 := bne_iff_ne.mpr j0
     replace H := zI1 H
     rcases H with ⟨j4, H⟩ | ⟨j4, H⟩
     ·have v0 := beq_iff_eq.mpr j4
      have v1 := bne_eq_false_iff_eq.mpr j4
      clear j4
      obtain ⟨j5, g4⟩ : ∃ j_ : Int, (mn a2 2) = j_ := ⟨_, rfl⟩
      replace H : ((impl_nextOf.f a8 a9 0 ([] : List ByteArray) (j5)).bind fun k8 => ((impl_below.f k8.1 k8.2.1 k8.2.2.1 k8.2.2.2).bind fun k5 => (some (([(⟨4, (⟨a8, a9, b1, a5⟩ : S32)⟩ : S75), (⟨k5.1, (⟨k5.2.1, k5.2.2.1, k5.2.2.2.1, k5.2.2.2.2⟩ : S32)⟩ : S75)] : List (S75)))))) = some r := by first | (rw [g4] at H; exact H) | (simp only [g4] at H ⊢; exact H)
      (try rw [g4] at A4)
      (try (have hji109h : j5 ≤ 2 := by (rw [← g4]; unfold mn; (repeat' split) <;> omega)))
      (try (have hji109g : j5 ≤ 64 := by omega))
      have a17 : (if 2 < a2 then 2 else a2) = j5 := g4
      replace H := zj H
      obtain ⟨⟨m4, m5, m6, d7⟩, v2, H⟩ := H
      try dsimp only at H
      replace H := zj H
      obtain ⟨⟨g5, g6, g7, g8, g9⟩, v3, H⟩ := H
      try dsimp only at H
      obtain ⟨v4, m7⟩ : ∃ y_ : List (S75), y_ = (([(⟨4, (⟨a8, a9, b1, a5⟩ : S32)⟩ : S75), (⟨g5, (⟨g6, g7, g8, g9⟩ : S32)⟩ : S75)] : List (S75))) := ⟨_, rfl⟩
      replace H : (some v4) = some r := zY m7 H
      have o7 := Aside0.mk m7
      clear m7
      obtain rfl := Option.some.inj H
      go_enter Tryz.func169, Tryz.ntmps169
      try go_wp2_with (first | ((with_reducible refine zd 4 ?_); refine ze 4 32 #[.int .i64 a8, .int .i64 a9, .int .i64 b1, .slice b6 a5.length b5] ?_; intro b4 hg a18 hbox hb; replace a3 := zA (Kd.V_below (Kd.V_elderB (zV a3.out) b4 (Nat.le_of_eq hg.symm)) hb); have a1 := zA (hbox); have e3 := zi HB hg; have e4 := zi HB hg; replace HB := zA (below_step (zB) hb); clear hb hbox hg; obtain ⟨a19, a1a, a1b, a1c, a1d, a1e, a1f, a1g⟩ := ze4 a1.out) | ((with_reducible refine zd 7 ?_); refine ze 7 75 #[.int .i64 0, .int .i64 0, .int .i64 0, .int .i64 0, .slice none 0 0] ?_; intro b3 hg a1h hbox hb; replace a3 := zA (Kd.V_below (Kd.V_elderB (zV a3.out) b3 (Nat.le_of_eq hg.symm)) hb); have a4 := zA (hbox); have e5 := zi HB hg; have e6 := zi HB hg; replace HB := zh HB hb; have c2 := zA (zL hg (zK a1.out)); have c3 := zA (zJ hg (zK a1.out)); replace a1 := zb a1 hb; clear hb hbox hg; have a1i := c3.out; have a1j := c2.out; obtain ⟨a1k, a1l, a1m, a1n, a1o, a1p, a1q, a1r, a1s, a1t⟩ := ze5 a4.out; obtain ⟨a1v, a1x, a1y, a1z, a20, a21, a22, a23⟩ := ze4 a1.out) | ((with_reducible refine zq 191 ?_); refine zg (some 16) Tryz.func191 #[.agg #[.int .i64 a8, .int .i64 a9, .int .i64 b1, .slice b6 a5.length b5], .int .i64 a2] ?_; (with_reducible refine (impl_nextOf.calls a8 a9 b1 _ _ a5 a2 b9 c0 c1 b2 _ ?side1 ?side2 A4.out).mono ?_); (case side1 => refine (Kd.V_reads' (e := 9) (base := w.heap.size) (ok := fun k_ => (((b8 k_ ∨ w.heap.size ≤ k_) ∧ k_ ≠ b4) ∧ k_ ≠ b3)) (n := a5.length) (c := b5) ?_).2.2; exact (zVt (zv5 a3.out (fun _ hk => hk.2)))); (case side2 => exact (Kd.V_reads' a3.out).2.1); rintro e a24 ⟨e7, rfl, b7, hb⟩; refine ⟨_, rfl, ?_⟩; replace a3 := zA (Kd.V_elder' (zVt (zv5 a3.out (fun _ hk => hk.2))) (Kd.R_base b7) hb); have a7 := zA (Kd.R_lower (Kd.R_newM (M := fun k_ => (w.heap.size ≤ k_)) b7 (below_size (zW HB.out)) (fun k_ h_ => h_)) (below_size (zW HB.out))); replace a1 := zb a1 hb; replace a4 := zA (blk_below (zk5 a4.out) hb); replace HB := zh HB hb; (try clear hb b7)) | ((with_reducible refine zd 9 ?_); refine ze 9 32 #[.int .i64 0, .int .i64 0, .int .i64 0, .slice none 0 0] ?_; intro a6 hg v5 hbox hb; replace a3 := zA (Kd.V_below (Kd.V_elderB (zV a3.out) a6 (Nat.le_of_eq hg.symm)) hb); replace a7 := zr a7 hb; have b0 := zA (hbox); have e8 := zi HB hg; have e9 := zi HB hg; replace HB := zh HB hb; have c4 := zA (zL hg (zK a1.out)); have c6 := zA (zJ hg (zK a1.out)); replace a1 := zb a1 hb; have c7 := zA (zL hg (zK a4.out)); have c8 := zA (zJ hg (zK a4.out)); replace a4 := zb a4 hb; clear hb hbox hg; have a25 := c6.out; have a26 := c4.out; have a27 := c8.out; have a28 := c7.out; obtain ⟨a29, a2a, a2b, a2c, a2d, a2e, a2f, a2g⟩ := ze4 b0.out; obtain ⟨d3, d4, v6⟩ := Kd.R_slice a7.out; subst v6))
      generalize hW_ : ((((v5.setCell ⟨a6, 0, none⟩ (.int .i64 b9)).setCell ⟨a6, 1, none⟩ (.int .i64 c0)).setCell ⟨a6, 2, none⟩ (.int .i64 c1)).setCell ⟨a6, 3, none⟩ (.slice d3 b2.length d4)) = m8
      replace a3 : Aside0 (Kd.V Kd.string 9 m8 w.heap.size (fun k_ => (b8 k_ ∨ w.heap.size ≤ k_) ∧ some k_ ≠ (.slice d3 b2.length d4 : Value).ownBlock ∧ k_ ≠ b4 ∧ k_ ≠ b3 ∧ k_ ≠ a6) (.slice b6 a5.length b5) a5) := ⟨by subst hW_; exact zVt (Kd.V_mono (zv4 a3.out (fun _ hk => hk.2)) (fun _ hk => ⟨hk.1.1.1.1, ⟨hk.1.2, ⟨hk.1.1.1.2, ⟨hk.1.1.2, hk.2⟩⟩⟩⟩))⟩
      replace a7 : Aside0 (Kd.R Kd.string 9 m8 w.heap.size (fun k_ => (w.heap.size ≤ k_)) (.slice d3 b2.length d4) b2) := ⟨by subst hW_; exact zR (Kd.R_mono (zr4 a7.out b0.out) (fun _ hk => hk.1))⟩
      replace a1 := zA (zh1 hW_.symm (zK a1.out))
      replace a4 := zA (zh1 hW_.symm (zK a4.out))
      replace b0 := zA (zh1 hW_.symm (zk4 b0.out))
      replace HB := zA (zh2 hW_.symm (zW HB.out))
      clear hW_
      replace a3 := zA (Kd.V_drew a3.out)
      replace a7 := zA (Kd.R_drew a7.out)
      replace a1 := zA (blk_drew a1.out)
      replace a4 := zA (blk_drew a4.out)
      replace b0 := zA (blk_drew b0.out)
      replace HB := zA (below_drew1 HB.out)
      refine start_ (n := 12) (S := fun w' => w'.cell? ⟨b3, 0, none⟩ = some (.int .i64 4) ∧ w'.cell? ⟨b3, 1, none⟩ = some (.int .i64 a8) ∧ w'.cell? ⟨b3, 2, none⟩ = some (.int .i64 a9) ∧ w'.cell? ⟨b3, 3, none⟩ = some (.int .i64 b1) ∧ w'.cell? ⟨b3, 4, none⟩ = some (.slice b6 a5.length b5) ∧ w'.cell? ⟨b4, 0, none⟩ = some (.int .i64 a8) ∧ w'.cell? ⟨b4, 1, none⟩ = some (.int .i64 a9) ∧ w'.cell? ⟨b4, 2, none⟩ = some (.int .i64 b1) ∧ w'.cell? ⟨b4, 3, none⟩ = some (.slice b6 a5.length b5)) (ds := []) (Array.replicate 12 false) (by kernel_rfl) rfl rfl zO fun hHeld => ?_; refine with_tabW impl_wordCmps.tab18 impl_wordCmps.bits18 (fun HT_ HW_ => ?_)
      generalize m8.drew = a2h at a3 a7 a1 a4 b0 HB hHeld ⊢
      refine zp 1 48 ?_
      refine zp 3 50 ?_
      refine zp 6 53 ?_
      refine zp 7 54 ?_
      refine zt 0 47 ?_
      refine zt 2 49 ?_
      refine zt 4 51 ?_
      refine zp 5 52 ?_
      refine zo 8 (some 55) fun K hK => ?_
      refine goes_ Tryz.func191 (by kernel_rfl) rfl #[.agg #[.int .i64 a8, .int .i64 a9, .int .i64 0, .slice none 0 0], .int .i64 j5] (by rfl) rfl rfl (by (try simp only [List.map_toArray, List.map_cons, List.map_nil]); first | done | (simp only [g4]; rfl) | rfl | (simp only [List.length_drop, List.length_take]; rfl)) ?_
      refine (impl_nextOf.calls a8 a9 0 _ _ ([] : List ByteArray) j5 m4 m5 m6 d7 _ ?side1 ?side2 v2.out).mono ?_
      (case side1 => exact Kd.C_nil _ _)
      (case side2 => exact Nat.le_refl _)
      rintro e a2i ⟨a2j, rfl, b7, hb⟩
      refine ⟨_, rfl, ?_⟩
      replace a3 := zA (Kd.V_elder' (zV a3.out) (Kd.R_base b7) hb)
      have d8 := zA (Kd.R_lower (Kd.R_new' (Kd.R_newM (M := fun k_ => (w.heap.size ≤ k_)) b7 (below_size (zW HB.out)) (fun k_ h_ => h_)) (Kd.R_lt (zR a7.out))) (below_size (zW HB.out)))
      replace a7 := zA (Kd.R_elder' (zR a7.out) (Kd.R_base b7) hb)
      replace a1 := zb a1 hb
      replace a4 := zb a4 hb
      replace b0 := zb b0 hb
      replace HB := zh HB hb
      (try clear hb b7)
      obtain ⟨h0, h1, o8⟩ := Kd.R_slice d8.out
      (first | subst o8 | (injection o8 with f1_ f2_ f3_; have d9 := f1_.symm; have e0 := f3_.symm; clear f1_ f2_ f3_; subst d9; subst e0))
      refine hK.out _ _ zO fun hHeld => ?_
      clear hK K
      refine zn ?_
      refine zo 9 (some 56) fun K hK => ?_
      refine goes_ Tryz.func192 (by kernel_rfl) rfl #[.agg #[.int .i64 m4, .int .i64 m5, .int .i64 m6, .slice h0 d7.length h1]] (by rfl) rfl rfl zM ?_
      with_reducible refine (impl_below.calls m4 m5 m6 _ _ d7 g5 g6 g7 g8 g9 _ ?side1 ?side2 v3.out).mono ?_
      (case side1 => repeat (first | exact (Kd.R_reads' d8.out).2.2 | (with_reducible refine Kd.C_alloc ?_ _) | (with_reducible refine Kd.C_drewN ?_ _) | (with_reducible refine Kd.C_drew ?_)))
      (case side2 => exact (Kd.R_reads' d8.out).2.1)
      rintro e v7 ⟨a2k, rfl, b7, hb⟩
      refine ⟨_, rfl, ?_⟩
      replace a3 := zA (Kd.V_elder' (zV a3.out) (Kd.R_base b7) hb)
      have k9 := zA (Kd.R_lower (Kd.R_new' (Kd.R_new' (Kd.R_newM (M := fun k_ => (w.heap.size ≤ k_)) b7 (below_size (zW HB.out)) (fun k_ h_ => h_)) (Kd.R_lt (zR a7.out))) (Kd.R_lt (zR d8.out))) (below_size (zW HB.out)))
      replace a7 := zA (Kd.R_elder' (zR a7.out) (Kd.R_base b7) hb)
      replace d8 := zA (Kd.R_elder' (zR d8.out) (Kd.R_base b7) hb)
      replace a1 := zb a1 hb
      replace a4 := zb a4 hb
      replace b0 := zb b0 hb
      replace HB := zh HB hb
      (try clear hb b7)
      obtain ⟨o9, p0, p1⟩ := Kd.R_slice k9.out
      (first | subst p1 | (injection p1 with f1_ f2_ f3_; have d9 := f1_.symm; have e0 := f3_.symm; clear f1_ f2_ f3_; subst d9; subst e0))
      refine hK.out _ _ zO fun hHeld => ?_
      clear hK K
      refine zn ?_
      refine zo 10 (some 57) fun K hK => ?_
      refine Kd.N_lit_step k75 _ 75 ?hg (N' := 57) ?hd (xs := ([(⟨4, (⟨a8, a9, b1, a5⟩ : S32)⟩ : S75), (⟨g5, (⟨g6, g7, g8, g9⟩ : S32)⟩ : S75)] : List (S75))) (inner := [.int .i64 4, .int .i64 a8, .int .i64 a9, .int .i64 b1, .slice b6 a5.length b5, .int .i64 g5, .int .i64 g6, .int .i64 g7, .int .i64 g8, .slice o9 g9.length p0]) (ok := (fun k_ => (b8 k_ ∨ w.heap.size ≤ k_) ∧ some k_ ≠ (.slice d3 b2.length d4 : Value).ownBlock ∧ some k_ ≠ (.slice h0 d7.length h1 : Value).ownBlock ∧ k_ ≠ b4 ∧ k_ ≠ b3 ∧ k_ ≠ a6)) ?hr ?hp (fun _ hk => hk) ((show ∀ k_, v7.heap.size ≤ k_ → (fun k_ => (b8 k_ ∨ w.heap.size ≤ k_) ∧ some k_ ≠ (.slice d3 b2.length d4 : Value).ownBlock ∧ some k_ ≠ (.slice h0 d7.length h1 : Value).ownBlock ∧ k_ ≠ b4 ∧ k_ ≠ b3 ∧ k_ ≠ a6) k_ from fun k_ hk => ⟨(.inr (Nat.le_trans (below_size (zW HB.out)) hk)), Kd.fresh' (Kd.R_lt (zR a7.out)) k_ hk, Kd.fresh' (Kd.R_lt (zR d8.out)) k_ hk, Kd.freshB (g := b4) (o := .cells #[.int .i64 a8, .int .i64 a9, .int .i64 b1, .slice b6 a5.length b5] 32 (0, 0)) (zK a1.out) k_ hk, Kd.freshB (g := b3) (o := .cells #[.int .i64 4, .int .i64 a8, .int .i64 a9, .int .i64 b1, .slice b6 a5.length b5] 75 (0, 0)) (zK a4.out) k_ hk, Kd.freshB (g := a6) (o := .cells #[.int .i64 b9, .int .i64 c0, .int .i64 c1, .slice d3 b2.length d4] 32 (0, 0)) (zK b0.out) k_ hk⟩) _ (Nat.le_refl _)) (Below.refl _ _) (Nat.le_refl _) (by simp) ?_; (case hd => rfl); (case hg => rfl); (case hr => first | (go_simp; done) | (go_simp; rfl)); (case hp => exact (Reps.c5 (show Kd.FK k75 _ _ (⟨4, (⟨a8, a9, b1, a5⟩ : S32)⟩ : S75) [.int .i64 4, .int .i64 a8, .int .i64 a9, .int .i64 b1, .slice b6 a5.length b5] from (k75_mkF _ _ (⟨4, (⟨a8, a9, b1, a5⟩ : S32)⟩ : S75) (Kd.V_reads' (Kd.V_mono (ok' := (fun k_ => (b8 k_ ∨ w.heap.size ≤ k_) ∧ some k_ ≠ (.slice d3 b2.length d4 : Value).ownBlock ∧ some k_ ≠ (.slice h0 d7.length h1 : Value).ownBlock ∧ k_ ≠ b4 ∧ k_ ≠ b3 ∧ k_ ≠ a6)) (a3.out) (fun k_ hk => ⟨hk.1.1.1, ⟨hk.1.1.2.1, ⟨hk.1.2, ⟨hk.1.1.2.2.1, ⟨hk.1.1.2.2.2.1, hk.1.1.2.2.2.2⟩⟩⟩⟩⟩))).2.1 (Kd.V_F (Kd.V_mono (ok' := (fun k_ => (b8 k_ ∨ w.heap.size ≤ k_) ∧ some k_ ≠ (.slice d3 b2.length d4 : Value).ownBlock ∧ some k_ ≠ (.slice h0 d7.length h1 : Value).ownBlock ∧ k_ ≠ b4 ∧ k_ ≠ b3 ∧ k_ ≠ a6)) (a3.out) (fun k_ hk => ⟨hk.1.1.1, ⟨hk.1.1.2.1, ⟨hk.1.2, ⟨hk.1.1.2.2.1, ⟨hk.1.1.2.2.2.1, hk.1.1.2.2.2.2⟩⟩⟩⟩⟩))))) (Reps.c5 (show Kd.FK k75 _ _ (⟨g5, (⟨g6, g7, g8, g9⟩ : S32)⟩ : S75) [.int .i64 g5, .int .i64 g6, .int .i64 g7, .int .i64 g8, .slice o9 g9.length p0] from (k75_mkF _ _ (⟨g5, (⟨g6, g7, g8, g9⟩ : S32)⟩ : S75) (Kd.R_reads' (Kd.R_mono (ok' := (fun k_ => (b8 k_ ∨ w.heap.size ≤ k_) ∧ some k_ ≠ (.slice d3 b2.length d4 : Value).ownBlock ∧ some k_ ≠ (.slice h0 d7.length h1 : Value).ownBlock ∧ k_ ≠ b4 ∧ k_ ≠ b3 ∧ k_ ≠ a6)) (Kd.R_types (Kd.R_types (Kd.R_types (k9.out) a1.out (by decide)) a4.out (by decide)) b0.out (by decide)) (fun k_ hk => ⟨(.inr (hk.1.1.1.1.1.1)), ⟨hk.1.1.1.1.2, ⟨hk.1.1.1.2, ⟨hk.1.1.2, ⟨hk.1.2, hk.2⟩⟩⟩⟩⟩))).2.1 (Kd.R_F (Kd.R_mono (ok' := (fun k_ => (b8 k_ ∨ w.heap.size ≤ k_) ∧ some k_ ≠ (.slice d3 b2.length d4 : Value).ownBlock ∧ some k_ ≠ (.slice h0 d7.length h1 : Value).ownBlock ∧ k_ ≠ b4 ∧ k_ ≠ b3 ∧ k_ ≠ a6)) (Kd.R_types (Kd.R_types (Kd.R_types (k9.out) a1.out (by decide)) a4.out (by decide)) b0.out (by decide)) (fun k_ hk => ⟨(.inr (hk.1.1.1.1.1.1)), ⟨hk.1.1.1.1.2, ⟨hk.1.1.1.2, ⟨hk.1.1.2, ⟨hk.1.2, hk.2⟩⟩⟩⟩⟩))))) (Reps.none _ _))))
      intro a2l a2m j6 hb hg_ hnew_
      clear hg_ hnew_
      (first | rw [← o7.out] at j6 | (simp only [Int.reduceToNat] at j6; rw [← o7.out] at j6))
      replace a3 := zA (Kd.V_elder' (zV a3.out) (Kd.N_base j6) hb)
      replace a7 := zr a7 hb
      replace d8 := zr d8 hb
      have v8 := zA (Kd.N_lower j6 (below_size (zW HB.out)))
      replace a1 := zb a1 hb
      replace a4 := zb a4 hb
      replace b0 := zb b0 hb
      replace HB := zh HB hb
      clear k9
      clear hb j6
      refine hK.out _ _ zO fun hHeld => ?_
      clear hK K
      refine zn ?_
      refine zp 11 6 ?_
      refine done_ (done_of HT_.out (by kernel_rfl)) ?_
      try go_wp2
      go_ret
      exact ⟨_, by first | rfl | (simp [errW_none, errW_some] <;> rfl) | (simp only [← g4]; first | rfl | (simp [errW_none, errW_some] <;> rfl)) | (simp [*, errW_none, errW_some] <;> rfl), zNt (Kd.N_mono v8.out (fun _ hk => hk.1)), zW HB.out⟩
     ·have v0 := beq_eq_false_iff_ne.mpr j4
      have v1 := bne_iff_ne.mpr j4
      replace H := zI1 H
      rcases H with ⟨j7, H⟩ | ⟨j7, H⟩
      ·have v9 := beq_iff_eq.mpr j7
       have x0 := bne_eq_false_iff_eq.mpr j7
       clear j7
       replace H := zj H
       obtain ⟨⟨m9, n0, n1, e1⟩, x1, H⟩ := H
       try dsimp only at H
       replace H := zj H
       obtain ⟨⟨h2, h3, h4, h5, h6⟩, x2, H⟩ := H
       try dsimp only at H
       obtain ⟨x3, n2⟩ : ∃ y_ : List (S75), y_ = (([(⟨4, (⟨a8, a9, b1, a5⟩ : S32)⟩ : S75), (⟨h2, (⟨h3, h4, h5, h6⟩ : S32)⟩ : S75)] : List (S75))) := ⟨_, rfl⟩
       replace H : (some x3) = some r := zY n2 H
       have p2 := Aside0.mk n2
       clear n2
       obtain rfl := Option.some.inj H
       go_enter Tryz.func169, Tryz.ntmps169
       try go_wp2_with (first | ((with_reducible refine zd 4 ?_); refine ze 4 32 #[.int .i64 a8, .int .i64 a9, .int .i64 b1, .slice b6 a5.length b5] ?_; intro b4 hg a2n hbox hb; replace a3 := zA (Kd.V_below (Kd.V_elderB (zV a3.out) b4 (Nat.le_of_eq hg.symm)) hb); have a1 := zA (hbox); have e3 := zi HB hg; have e4 := zi HB hg; replace HB := zA (below_step (zB) hb); clear hb hbox hg; obtain ⟨a2o, a2p, a2q, a2r, a2s, a2t, a2v, a2x⟩ := ze4 a1.out) | ((with_reducible refine zd 7 ?_); refine ze 7 75 #[.int .i64 0, .int .i64 0, .int .i64 0, .int .i64 0, .slice none 0 0] ?_; intro b3 hg a2y hbox hb; replace a3 := zA (Kd.V_below (Kd.V_elderB (zV a3.out) b3 (Nat.le_of_eq hg.symm)) hb); have a4 := zA (hbox); have e5 := zi HB hg; have e6 := zi HB hg; replace HB := zh HB hb; have c2 := zA (zL hg (zK a1.out)); have c3 := zA (zJ hg (zK a1.out)); replace a1 := zb a1 hb; clear hb hbox hg; have a2z := c3.out; have a30 := c2.out; obtain ⟨a31, a32, a33, a34, a35, a36, a37, a38, a39, a3a⟩ := ze5 a4.out; obtain ⟨a3b, a3c, a3d, a3e, a3f, a3g, a3h, a3i⟩ := ze4 a1.out) | ((with_reducible refine zq 191 ?_); refine zg (some 16) Tryz.func191 #[.agg #[.int .i64 a8, .int .i64 a9, .int .i64 b1, .slice b6 a5.length b5], .int .i64 a2] ?_; (with_reducible refine (impl_nextOf.calls a8 a9 b1 _ _ a5 a2 b9 c0 c1 b2 _ ?side1 ?side2 A4.out).mono ?_); (case side1 => refine (Kd.V_reads' (e := 9) (base := w.heap.size) (ok := fun k_ => (((b8 k_ ∨ w.heap.size ≤ k_) ∧ k_ ≠ b4) ∧ k_ ≠ b3)) (n := a5.length) (c := b5) ?_).2.2; exact (zVt (zv5 a3.out (fun _ hk => hk.2)))); (case side2 => exact (Kd.V_reads' a3.out).2.1); rintro e a3j ⟨e7, rfl, b7, hb⟩; refine ⟨_, rfl, ?_⟩; replace a3 := zA (Kd.V_elder' (zVt (zv5 a3.out (fun _ hk => hk.2))) (Kd.R_base b7) hb); have a7 := zA (Kd.R_lower (Kd.R_newM (M := fun k_ => (w.heap.size ≤ k_)) b7 (below_size (zW HB.out)) (fun k_ h_ => h_)) (below_size (zW HB.out))); replace a1 := zb a1 hb; replace a4 := zA (blk_below (zk5 a4.out) hb); replace HB := zh HB hb; (try clear hb b7)) | ((with_reducible refine zd 9 ?_); refine ze 9 32 #[.int .i64 0, .int .i64 0, .int .i64 0, .slice none 0 0] ?_; intro a6 hg x4 hbox hb; replace a3 := zA (Kd.V_below (Kd.V_elderB (zV a3.out) a6 (Nat.le_of_eq hg.symm)) hb); replace a7 := zr a7 hb; have b0 := zA (hbox); have e8 := zi HB hg; have e9 := zi HB hg; replace HB := zh HB hb; have c4 := zA (zL hg (zK a1.out)); have c6 := zA (zJ hg (zK a1.out)); replace a1 := zb a1 hb; have c7 := zA (zL hg (zK a4.out)); have c8 := zA (zJ hg (zK a4.out)); replace a4 := zb a4 hb; clear hb hbox hg; have a3k := c6.out; have a3l := c4.out; have a3m := c8.out; have a3n := c7.out; obtain ⟨a3o, a3p, a3q, a3r, a3s, a3t, a3v, a3x⟩ := ze4 b0.out; obtain ⟨d5, d6, x5⟩ := Kd.R_slice a7.out; subst x5))
       generalize hW_ : ((((x4.setCell ⟨a6, 0, none⟩ (.int .i64 b9)).setCell ⟨a6, 1, none⟩ (.int .i64 c0)).setCell ⟨a6, 2, none⟩ (.int .i64 c1)).setCell ⟨a6, 3, none⟩ (.slice d5 b2.length d6)) = n3
       replace a3 : Aside0 (Kd.V Kd.string 9 n3 w.heap.size (fun k_ => (b8 k_ ∨ w.heap.size ≤ k_) ∧ some k_ ≠ (.slice d5 b2.length d6 : Value).ownBlock ∧ k_ ≠ b4 ∧ k_ ≠ b3 ∧ k_ ≠ a6) (.slice b6 a5.length b5) a5) := ⟨by subst hW_; exact zVt (Kd.V_mono (zv4 a3.out (fun _ hk => hk.2)) (fun _ hk => ⟨hk.1.1.1.1, ⟨hk.1.2, ⟨hk.1.1.1.2, ⟨hk.1.1.2, hk.2⟩⟩⟩⟩))⟩
       replace a7 : Aside0 (Kd.R Kd.string 9 n3 w.heap.size (fun k_ => (w.heap.size ≤ k_)) (.slice d5 b2.length d6) b2) := ⟨by subst hW_; exact zR (Kd.R_mono (zr4 a7.out b0.out) (fun _ hk => hk.1))⟩
       replace a1 := zA (zh1 hW_.symm (zK a1.out))
       replace a4 := zA (zh1 hW_.symm (zK a4.out))
       replace b0 := zA (zh1 hW_.symm (zk4 b0.out))
       replace HB := zA (zh2 hW_.symm (zW HB.out))
       clear hW_
       replace a3 := zA (Kd.V_drew a3.out)
       replace a7 := zA (Kd.R_drew a7.out)
       replace a1 := zA (blk_drew a1.out)
       replace a4 := zA (blk_drew a4.out)
       replace b0 := zA (blk_drew b0.out)
       replace HB := zA (below_drew1 HB.out)
       refine start_ (n := 7) (S := fun w' => w'.cell? ⟨b3, 0, none⟩ = some (.int .i64 4) ∧ w'.cell? ⟨b3, 1, none⟩ = some (.int .i64 a8) ∧ w'.cell? ⟨b3, 2, none⟩ = some (.int .i64 a9) ∧ w'.cell? ⟨b3, 3, none⟩ = some (.int .i64 b1) ∧ w'.cell? ⟨b3, 4, none⟩ = some (.slice b6 a5.length b5) ∧ w'.cell? ⟨b4, 0, none⟩ = some (.int .i64 a8) ∧ w'.cell? ⟨b4, 1, none⟩ = some (.int .i64 a9) ∧ w'.cell? ⟨b4, 2, none⟩ = some (.int .i64 b1) ∧ w'.cell? ⟨b4, 3, none⟩ = some (.slice b6 a5.length b5)) (ds := []) (Array.replicate 7 false) (by kernel_rfl) rfl rfl zO fun hHeld => ?_
       generalize n3.drew = a3y at a3 a7 a1 a4 b0 HB hHeld ⊢
       refine zp 2 62 ?_
       refine zt 0 60 ?_
       refine zt 1 61 ?_
       refine zo 3 (some 63) fun K hK => ?_
       refine goes_ Tryz.func193 (by kernel_rfl) rfl #[.agg #[.int .i64 a8, .int .i64 a9, .int .i64 b1, .slice b6 a5.length b5], .int .i64 a2] (by rfl) rfl rfl zM ?_
       with_reducible refine (impl_caret.calls k a8 a9 b1 _ _ a5 a2 m9 n0 n1 e1 _ ?side1 ?side2 x1.out).mono ?_
       (case side1 => repeat (first | exact (Kd.V_reads' a3.out).2.2 | (with_reducible refine Kd.C_alloc ?_ _) | (with_reducible refine Kd.C_drewN ?_ _) | (with_reducible refine Kd.C_drew ?_)))
       (case side2 => exact (Kd.V_reads' a3.out).2.1)
       rintro e a3z ⟨a40, rfl, b7, hb⟩
       refine ⟨_, rfl, ?_⟩
       replace a3 := zA (Kd.V_elder' (zV a3.out) (Kd.R_base b7) hb)
       have e2 := zA (Kd.R_lower (Kd.R_new' (Kd.R_newM (M := fun k_ => (w.heap.size ≤ k_)) b7 (below_size (zW HB.out)) (fun k_ h_ => h_)) (Kd.R_lt (zR a7.out))) (below_size (zW HB.out)))
       replace a7 := zA (Kd.R_elder' (zR a7.out) (Kd.R_base b7) hb)
       replace a1 := zb a1 hb
       replace a4 := zb a4 hb
       replace b0 := zb b0 hb
       replace HB := zh HB hb
       (try clear hb b7)
       obtain ⟨h7, h8, p3⟩ := Kd.R_slice e2.out
       (first | subst p3 | (injection p3 with f1_ f2_ f3_; have d9 := f1_.symm; have e0 := f3_.symm; clear f1_ f2_ f3_; subst d9; subst e0))
       refine hK.out _ _ zO fun hHeld => ?_
       clear hK K
       refine zn ?_
       refine zo 4 (some 64) fun K hK => ?_
       refine goes_ Tryz.func192 (by kernel_rfl) rfl #[.agg #[.int .i64 m9, .int .i64 n0, .int .i64 n1, .slice h7 e1.length h8]] (by rfl) rfl rfl zM ?_
       with_reducible refine (impl_below.calls m9 n0 n1 _ _ e1 h2 h3 h4 h5 h6 _ ?side1 ?side2 x2.out).mono ?_
       (case side1 => repeat (first | exact (Kd.R_reads' e2.out).2.2 | (with_reducible refine Kd.C_alloc ?_ _) | (with_reducible refine Kd.C_drewN ?_ _) | (with_reducible refine Kd.C_drew ?_)))
       (case side2 => exact (Kd.R_reads' e2.out).2.1)
       rintro e x6 ⟨a41, rfl, b7, hb⟩
       refine ⟨_, rfl, ?_⟩
       replace a3 := zA (Kd.V_elder' (zV a3.out) (Kd.R_base b7) hb)
       have l0 := zA (Kd.R_lower (Kd.R_new' (Kd.R_new' (Kd.R_newM (M := fun k_ => (w.heap.size ≤ k_)) b7 (below_size (zW HB.out)) (fun k_ h_ => h_)) (Kd.R_lt (zR a7.out))) (Kd.R_lt (zR e2.out))) (below_size (zW HB.out)))
       replace a7 := zA (Kd.R_elder' (zR a7.out) (Kd.R_base b7) hb)
       replace e2 := zA (Kd.R_elder' (zR e2.out) (Kd.R_base b7) hb)
       replace a1 := zb a1 hb
       replace a4 := zb a4 hb
       replace b0 := zb b0 hb
       replace HB := zh HB hb
       (try clear hb b7)
       obtain ⟨p4, p5, p6⟩ := Kd.R_slice l0.out
       (first | subst p6 | (injection p6 with f1_ f2_ f3_; have d9 := f1_.symm; have e0 := f3_.symm; clear f1_ f2_ f3_; subst d9; subst e0))
       refine hK.out _ _ zO fun hHeld => ?_
       clear hK K
       refine zn ?_
       refine zo 5 (some 65) fun K hK => ?_
       refine Kd.N_lit_step k75 _ 75 ?hg (N' := 65) ?hd (xs := ([(⟨4, (⟨a8, a9, b1, a5⟩ : S32)⟩ : S75), (⟨h2, (⟨h3, h4, h5, h6⟩ : S32)⟩ : S75)] : List (S75))) (inner := [.int .i64 4, .int .i64 a8, .int .i64 a9, .int .i64 b1, .slice b6 a5.length b5, .int .i64 h2, .int .i64 h3, .int .i64 h4, .int .i64 h5, .slice p4 h6.length p5]) (ok := (fun k_ => (b8 k_ ∨ w.heap.size ≤ k_) ∧ some k_ ≠ (.slice d5 b2.length d6 : Value).ownBlock ∧ some k_ ≠ (.slice h7 e1.length h8 : Value).ownBlock ∧ k_ ≠ b4 ∧ k_ ≠ b3 ∧ k_ ≠ a6)) ?hr ?hp (fun _ hk => hk) ((show ∀ k_, x6.heap.size ≤ k_ → (fun k_ => (b8 k_ ∨ w.heap.size ≤ k_) ∧ some k_ ≠ (.slice d5 b2.length d6 : Value).ownBlock ∧ some k_ ≠ (.slice h7 e1.length h8 : Value).ownBlock ∧ k_ ≠ b4 ∧ k_ ≠ b3 ∧ k_ ≠ a6) k_ from fun k_ hk => ⟨(.inr (Nat.le_trans (below_size (zW HB.out)) hk)), Kd.fresh' (Kd.R_lt (zR a7.out)) k_ hk, Kd.fresh' (Kd.R_lt (zR e2.out)) k_ hk, Kd.freshB (g := b4) (o := .cells #[.int .i64 a8, .int .i64 a9, .int .i64 b1, .slice b6 a5.length b5] 32 (0, 0)) (zK a1.out) k_ hk, Kd.freshB (g := b3) (o := .cells #[.int .i64 4, .int .i64 a8, .int .i64 a9, .int .i64 b1, .slice b6 a5.length b5] 75 (0, 0)) (zK a4.out) k_ hk, Kd.freshB (g := a6) (o := .cells #[.int .i64 b9, .int .i64 c0, .int .i64 c1, .slice d5 b2.length d6] 32 (0, 0)) (zK b0.out) k_ hk⟩) _ (Nat.le_refl _)) (Below.refl _ _) (Nat.le_refl _) (by simp) ?_; (case hd => rfl); (case hg => rfl); (case hr => first | (go_simp; done) | (go_simp; rfl)); (case hp => exact (Reps.c5 (show Kd.FK k75 _ _ (⟨4, (⟨a8, a9, b1, a5⟩ : S32)⟩ : S75) [.int .i64 4, .int .i64 a8, .int .i64 a9, .int .i64 b1, .slice b6 a5.length b5] from (k75_mkF _ _ (⟨4, (⟨a8, a9, b1, a5⟩ : S32)⟩ : S75) (Kd.V_reads' (Kd.V_mono (ok' := (fun k_ => (b8 k_ ∨ w.heap.size ≤ k_) ∧ some k_ ≠ (.slice d5 b2.length d6 : Value).ownBlock ∧ some k_ ≠ (.slice h7 e1.length h8 : Value).ownBlock ∧ k_ ≠ b4 ∧ k_ ≠ b3 ∧ k_ ≠ a6)) (a3.out) (fun k_ hk => ⟨hk.1.1.1, ⟨hk.1.1.2.1, ⟨hk.1.2, ⟨hk.1.1.2.2.1, ⟨hk.1.1.2.2.2.1, hk.1.1.2.2.2.2⟩⟩⟩⟩⟩))).2.1 (Kd.V_F (Kd.V_mono (ok' := (fun k_ => (b8 k_ ∨ w.heap.size ≤ k_) ∧ some k_ ≠ (.slice d5 b2.length d6 : Value).ownBlock ∧ some k_ ≠ (.slice h7 e1.length h8 : Value).ownBlock ∧ k_ ≠ b4 ∧ k_ ≠ b3 ∧ k_ ≠ a6)) (a3.out) (fun k_ hk => ⟨hk.1.1.1, ⟨hk.1.1.2.1, ⟨hk.1.2, ⟨hk.1.1.2.2.1, ⟨hk.1.1.2.2.2.1, hk.1.1.2.2.2.2⟩⟩⟩⟩⟩))))) (Reps.c5 (show Kd.FK k75 _ _ (⟨h2, (⟨h3, h4, h5, h6⟩ : S32)⟩ : S75) [.int .i64 h2, .int .i64 h3, .int .i64 h4, .int .i64 h5, .slice p4 h6.length p5] from (k75_mkF _ _ (⟨h2, (⟨h3, h4, h5, h6⟩ : S32)⟩ : S75) (Kd.R_reads' (Kd.R_mono (ok' := (fun k_ => (b8 k_ ∨ w.heap.size ≤ k_) ∧ some k_ ≠ (.slice d5 b2.length d6 : Value).ownBlock ∧ some k_ ≠ (.slice h7 e1.length h8 : Value).ownBlock ∧ k_ ≠ b4 ∧ k_ ≠ b3 ∧ k_ ≠ a6)) (Kd.R_types (Kd.R_types (Kd.R_types (l0.out) a1.out (by decide)) a4.out (by decide)) b0.out (by decide)) (fun k_ hk => ⟨(.inr (hk.1.1.1.1.1.1)), ⟨hk.1.1.1.1.2, ⟨hk.1.1.1.2, ⟨hk.1.1.2, ⟨hk.1.2, hk.2⟩⟩⟩⟩⟩))).2.1 (Kd.R_F (Kd.R_mono (ok' := (fun k_ => (b8 k_ ∨ w.heap.size ≤ k_) ∧ some k_ ≠ (.slice d5 b2.length d6 : Value).ownBlock ∧ some k_ ≠ (.slice h7 e1.length h8 : Value).ownBlock ∧ k_ ≠ b4 ∧ k_ ≠ b3 ∧ k_ ≠ a6)) (Kd.R_types (Kd.R_types (Kd.R_types (l0.out) a1.out (by decide)) a4.out (by decide)) b0.out (by decide)) (fun k_ hk => ⟨(.inr (hk.1.1.1.1.1.1)), ⟨hk.1.1.1.1.2, ⟨hk.1.1.1.2, ⟨hk.1.1.2, ⟨hk.1.2, hk.2⟩⟩⟩⟩⟩))))) (Reps.none _ _))))
       intro a42 a43 j8 hb hg_ hnew_
       clear hg_ hnew_
       (first | rw [← p2.out] at j8 | (simp only [Int.reduceToNat] at j8; rw [← p2.out] at j8))
       replace a3 := zA (Kd.V_elder' (zV a3.out) (Kd.N_base j8) hb)
       replace a7 := zr a7 hb
       replace e2 := zr e2 hb
       have x7 := zA (Kd.N_lower j8 (below_size (zW HB.out)))
       replace a1 := zb a1 hb
       replace a4 := zb a4 hb
       replace b0 := zb b0 hb
       replace HB := zh HB hb
       clear l0
       clear hb j8
       refine hK.out _ _ zO fun hHeld => ?_
       clear hK K
       refine zn ?_
       refine zp 6 6 ?_
       refine done_ (by kernel_rfl) ?_
       try go_wp2
       go_ret
       exact ⟨_, zE, zNt (Kd.N_mono x7.out (fun _ hk => hk.1)), zW HB.out⟩
      ·have v9 := beq_eq_false_iff_ne.mpr j7
       have x0 := bne_iff_ne.mpr j7
       replace H := zI0 H
       rcases H with ⟨x8, H⟩ | ⟨x8, H⟩
       ·replace H := zj H
        obtain ⟨⟨h9, i0, i1, i2, i3⟩, x9, H⟩ := H
        try dsimp only at H
        obtain ⟨y0, n4⟩ : ∃ y_ : List (S75), y_ = (([(⟨4, (⟨a8, a9, b1, a5⟩ : S32)⟩ : S75), (⟨h9, (⟨i0, i1, i2, i3⟩ : S32)⟩ : S75)] : List (S75))) := ⟨_, rfl⟩
        replace H : (some y0) = some r := zY n4 H
        have p7 := Aside0.mk n4
        clear n4
        obtain rfl := Option.some.inj H
        go_enter Tryz.func169, Tryz.ntmps169
        try go_wp2_with (first | ((with_reducible refine zd 4 ?_); refine ze 4 32 #[.int .i64 a8, .int .i64 a9, .int .i64 b1, .slice b6 a5.length b5] ?_; intro b4 hg a44 hbox hb; replace a3 := zA (Kd.V_below (Kd.V_elderB (zV a3.out) b4 (Nat.le_of_eq hg.symm)) hb); have a1 := zA (hbox); have e3 := zi HB hg; have e4 := zi HB hg; replace HB := zA (below_step (zB) hb); clear hb hbox hg; obtain ⟨a45, a46, a47, a48, a49, a4a, a4b, a4c⟩ := ze4 a1.out) | ((with_reducible refine zd 7 ?_); refine ze 7 75 #[.int .i64 0, .int .i64 0, .int .i64 0, .int .i64 0, .slice none 0 0] ?_; intro b3 hg a4d hbox hb; replace a3 := zA (Kd.V_below (Kd.V_elderB (zV a3.out) b3 (Nat.le_of_eq hg.symm)) hb); have a4 := zA (hbox); have e5 := zi HB hg; have e6 := zi HB hg; replace HB := zh HB hb; have c2 := zA (zL hg (zK a1.out)); have c3 := zA (zJ hg (zK a1.out)); replace a1 := zb a1 hb; clear hb hbox hg; have a4e := c3.out; have a4f := c2.out; obtain ⟨a4g, a4h, a4i, a4j, a4k, a4l, a4m, a4n, a4o, a4p⟩ := ze5 a4.out; obtain ⟨a4q, a4r, a4s, a4t, a4v, a4x, a4y, a4z⟩ := ze4 a1.out) | ((with_reducible refine zq 191 ?_); refine zg (some 16) Tryz.func191 #[.agg #[.int .i64 a8, .int .i64 a9, .int .i64 b1, .slice b6 a5.length b5], .int .i64 a2] ?_; (with_reducible refine (impl_nextOf.calls a8 a9 b1 _ _ a5 a2 b9 c0 c1 b2 _ ?side1 ?side2 A4.out).mono ?_); (case side1 => refine (Kd.V_reads' (e := 9) (base := w.heap.size) (ok := fun k_ => (((b8 k_ ∨ w.heap.size ≤ k_) ∧ k_ ≠ b4) ∧ k_ ≠ b3)) (n := a5.length) (c := b5) ?_).2.2; exact (zVt (zv5 a3.out (fun _ hk => hk.2)))); (case side2 => exact (Kd.V_reads' a3.out).2.1); rintro e a50 ⟨e7, rfl, b7, hb⟩; refine ⟨_, rfl, ?_⟩; replace a3 := zA (Kd.V_elder' (zVt (zv5 a3.out (fun _ hk => hk.2))) (Kd.R_base b7) hb); have a7 := zA (Kd.R_lower (Kd.R_newM (M := fun k_ => (w.heap.size ≤ k_)) b7 (below_size (zW HB.out)) (fun k_ h_ => h_)) (below_size (zW HB.out))); replace a1 := zb a1 hb; replace a4 := zA (blk_below (zk5 a4.out) hb); replace HB := zh HB hb; (try clear hb b7)) | ((with_reducible refine zd 9 ?_); refine ze 9 32 #[.int .i64 0, .int .i64 0, .int .i64 0, .slice none 0 0] ?_; intro a6 hg y1 hbox hb; replace a3 := zA (Kd.V_below (Kd.V_elderB (zV a3.out) a6 (Nat.le_of_eq hg.symm)) hb); replace a7 := zr a7 hb; have b0 := zA (hbox); have e8 := zi HB hg; have e9 := zi HB hg; replace HB := zh HB hb; have c4 := zA (zL hg (zK a1.out)); have c6 := zA (zJ hg (zK a1.out)); replace a1 := zb a1 hb; have c7 := zA (zL hg (zK a4.out)); have c8 := zA (zJ hg (zK a4.out)); replace a4 := zb a4 hb; clear hb hbox hg; have a51 := c6.out; have a52 := c4.out; have a53 := c8.out; have a54 := c7.out; obtain ⟨a55, a56, a57, a58, a59, a5a, a5b, a5c⟩ := ze4 b0.out; obtain ⟨c9, d0, y2⟩ := Kd.R_slice a7.out; subst y2))
        generalize hW_ : ((((y1.setCell ⟨a6, 0, none⟩ (.int .i64 b9)).setCell ⟨a6, 1, none⟩ (.int .i64 c0)).setCell ⟨a6, 2, none⟩ (.int .i64 c1)).setCell ⟨a6, 3, none⟩ (.slice c9 b2.length d0)) = n5
        replace a3 : Aside0 (Kd.V Kd.string 9 n5 w.heap.size (fun k_ => (b8 k_ ∨ w.heap.size ≤ k_) ∧ some k_ ≠ (.slice c9 b2.length d0 : Value).ownBlock ∧ k_ ≠ b4 ∧ k_ ≠ b3 ∧ k_ ≠ a6) (.slice b6 a5.length b5) a5) := ⟨by subst hW_; exact zVt (Kd.V_mono (zv4 a3.out (fun _ hk => hk.2)) (fun _ hk => ⟨hk.1.1.1.1, ⟨hk.1.2, ⟨hk.1.1.1.2, ⟨hk.1.1.2, hk.2⟩⟩⟩⟩))⟩
        replace a7 : Aside0 (Kd.R Kd.string 9 n5 w.heap.size (fun k_ => (w.heap.size ≤ k_)) (.slice c9 b2.length d0) b2) := ⟨by subst hW_; exact zR (Kd.R_mono (zr4 a7.out b0.out) (fun _ hk => hk.1))⟩
        replace a1 := zA (zh1 hW_.symm (zK a1.out))
        replace a4 := zA (zh1 hW_.symm (zK a4.out))
        replace b0 := zA (zh1 hW_.symm (zk4 b0.out))
        replace HB := zA (zh2 hW_.symm (zW HB.out))
        clear hW_
        replace a3 := zA (Kd.V_drew a3.out)
        replace a7 := zA (Kd.R_drew a7.out)
        replace a1 := zA (blk_drew a1.out)
        replace a4 := zA (blk_drew a4.out)
        replace b0 := zA (blk_drew b0.out)
        replace HB := zA (below_drew1 HB.out)
        refine start_ (n := 5) (S := fun w' => w'.cell? ⟨b3, 0, none⟩ = some (.int .i64 4) ∧ w'.cell? ⟨b3, 1, none⟩ = some (.int .i64 a8) ∧ w'.cell? ⟨b3, 2, none⟩ = some (.int .i64 a9) ∧ w'.cell? ⟨b3, 3, none⟩ = some (.int .i64 b1) ∧ w'.cell? ⟨b3, 4, none⟩ = some (.slice b6 a5.length b5) ∧ w'.cell? ⟨a6, 0, none⟩ = some (.int .i64 b9) ∧ w'.cell? ⟨a6, 1, none⟩ = some (.int .i64 c0) ∧ w'.cell? ⟨a6, 2, none⟩ = some (.int .i64 c1) ∧ w'.cell? ⟨a6, 3, none⟩ = some (.slice c9 b2.length d0)) (ds := []) (Array.replicate 5 false) (by kernel_rfl) rfl rfl zO fun hHeld => ?_
        generalize n5.drew = a5d at a3 a7 a1 a4 b0 HB hHeld ⊢
        refine zt 0 67 ?_
        refine zt 1 68 ?_
        refine zo 2 (some 69) fun K hK => ?_
        refine goes_ Tryz.func192 (by kernel_rfl) rfl #[.agg #[.int .i64 b9, .int .i64 c0, .int .i64 c1, .slice c9 b2.length d0]] (by rfl) rfl rfl zM ?_
        with_reducible refine (impl_below.calls b9 c0 c1 _ _ b2 h9 i0 i1 i2 i3 _ ?side1 ?side2 x9.out).mono ?_
        (case side1 => repeat (first | exact (Kd.R_reads' a7.out).2.2 | (with_reducible refine Kd.C_alloc ?_ _) | (with_reducible refine Kd.C_drewN ?_ _) | (with_reducible refine Kd.C_drew ?_)))
        (case side2 => exact (Kd.R_reads' a7.out).2.1)
        rintro e y3 ⟨a5e, rfl, b7, hb⟩
        refine ⟨_, rfl, ?_⟩
        replace a3 := zA (Kd.V_elder' (zV a3.out) (Kd.R_base b7) hb)
        have l1 := zA (Kd.R_lower (Kd.R_new' (Kd.R_newM (M := fun k_ => (w.heap.size ≤ k_)) b7 (below_size (zW HB.out)) (fun k_ h_ => h_)) (Kd.R_lt (zR a7.out))) (below_size (zW HB.out)))
        replace a7 := zA (Kd.R_elder' (zR a7.out) (Kd.R_base b7) hb)
        replace a1 := zb a1 hb
        replace a4 := zb a4 hb
        replace b0 := zb b0 hb
        replace HB := zh HB hb
        (try clear hb b7)
        obtain ⟨p8, p9, q0⟩ := Kd.R_slice l1.out
        (first | subst q0 | (injection q0 with f1_ f2_ f3_; have d9 := f1_.symm; have e0 := f3_.symm; clear f1_ f2_ f3_; subst d9; subst e0))
        refine hK.out _ _ zO fun hHeld => ?_
        clear hK K
        refine zn ?_
        refine zo 3 (some 70) fun K hK => ?_
        refine Kd.N_lit_step k75 _ 75 ?hg (N' := 70) ?hd (xs := ([(⟨4, (⟨a8, a9, b1, a5⟩ : S32)⟩ : S75), (⟨h9, (⟨i0, i1, i2, i3⟩ : S32)⟩ : S75)] : List (S75))) (inner := [.int .i64 4, .int .i64 a8, .int .i64 a9, .int .i64 b1, .slice b6 a5.length b5, .int .i64 h9, .int .i64 i0, .int .i64 i1, .int .i64 i2, .slice p8 i3.length p9]) (ok := (fun k_ => (b8 k_ ∨ w.heap.size ≤ k_) ∧ some k_ ≠ (.slice c9 b2.length d0 : Value).ownBlock ∧ k_ ≠ b4 ∧ k_ ≠ b3 ∧ k_ ≠ a6)) ?hr ?hp (fun _ hk => hk) ((show ∀ k_, y3.heap.size ≤ k_ → (fun k_ => (b8 k_ ∨ w.heap.size ≤ k_) ∧ some k_ ≠ (.slice c9 b2.length d0 : Value).ownBlock ∧ k_ ≠ b4 ∧ k_ ≠ b3 ∧ k_ ≠ a6) k_ from fun k_ hk => ⟨(.inr (Nat.le_trans (below_size (zW HB.out)) hk)), Kd.fresh' (Kd.R_lt (zR a7.out)) k_ hk, Kd.freshB (g := b4) (o := .cells #[.int .i64 a8, .int .i64 a9, .int .i64 b1, .slice b6 a5.length b5] 32 (0, 0)) (zK a1.out) k_ hk, Kd.freshB (g := b3) (o := .cells #[.int .i64 4, .int .i64 a8, .int .i64 a9, .int .i64 b1, .slice b6 a5.length b5] 75 (0, 0)) (zK a4.out) k_ hk, Kd.freshB (g := a6) (o := .cells #[.int .i64 b9, .int .i64 c0, .int .i64 c1, .slice c9 b2.length d0] 32 (0, 0)) (zK b0.out) k_ hk⟩) _ (Nat.le_refl _)) (Below.refl _ _) (Nat.le_refl _) (by simp) ?_; (case hd => rfl); (case hg => rfl); (case hr => first | (go_simp; done) | (go_simp; rfl)); (case hp => exact (Reps.c5 (show Kd.FK k75 _ _ (⟨4, (⟨a8, a9, b1, a5⟩ : S32)⟩ : S75) [.int .i64 4, .int .i64 a8, .int .i64 a9, .int .i64 b1, .slice b6 a5.length b5] from (k75_mkF _ _ (⟨4, (⟨a8, a9, b1, a5⟩ : S32)⟩ : S75) (Kd.V_reads' (Kd.V_mono (ok' := (fun k_ => (b8 k_ ∨ w.heap.size ≤ k_) ∧ some k_ ≠ (.slice c9 b2.length d0 : Value).ownBlock ∧ k_ ≠ b4 ∧ k_ ≠ b3 ∧ k_ ≠ a6)) (a3.out) (fun k_ hk => ⟨hk.1.1, ⟨hk.1.2.1, ⟨hk.1.2.2.1, ⟨hk.1.2.2.2.1, hk.1.2.2.2.2⟩⟩⟩⟩))).2.1 (Kd.V_F (Kd.V_mono (ok' := (fun k_ => (b8 k_ ∨ w.heap.size ≤ k_) ∧ some k_ ≠ (.slice c9 b2.length d0 : Value).ownBlock ∧ k_ ≠ b4 ∧ k_ ≠ b3 ∧ k_ ≠ a6)) (a3.out) (fun k_ hk => ⟨hk.1.1, ⟨hk.1.2.1, ⟨hk.1.2.2.1, ⟨hk.1.2.2.2.1, hk.1.2.2.2.2⟩⟩⟩⟩))))) (Reps.c5 (show Kd.FK k75 _ _ (⟨h9, (⟨i0, i1, i2, i3⟩ : S32)⟩ : S75) [.int .i64 h9, .int .i64 i0, .int .i64 i1, .int .i64 i2, .slice p8 i3.length p9] from (k75_mkF _ _ (⟨h9, (⟨i0, i1, i2, i3⟩ : S32)⟩ : S75) (Kd.R_reads' (Kd.R_mono (ok' := (fun k_ => (b8 k_ ∨ w.heap.size ≤ k_) ∧ some k_ ≠ (.slice c9 b2.length d0 : Value).ownBlock ∧ k_ ≠ b4 ∧ k_ ≠ b3 ∧ k_ ≠ a6)) (Kd.R_types (Kd.R_types (Kd.R_types (l1.out) a1.out (by decide)) a4.out (by decide)) b0.out (by decide)) (fun k_ hk => ⟨(.inr (hk.1.1.1.1.1)), ⟨hk.1.1.1.2, ⟨hk.1.1.2, ⟨hk.1.2, hk.2⟩⟩⟩⟩))).2.1 (Kd.R_F (Kd.R_mono (ok' := (fun k_ => (b8 k_ ∨ w.heap.size ≤ k_) ∧ some k_ ≠ (.slice c9 b2.length d0 : Value).ownBlock ∧ k_ ≠ b4 ∧ k_ ≠ b3 ∧ k_ ≠ a6)) (Kd.R_types (Kd.R_types (Kd.R_types (l1.out) a1.out (by decide)) a4.out (by decide)) b0.out (by decide)) (fun k_ hk => ⟨(.inr (hk.1.1.1.1.1)), ⟨hk.1.1.1.2, ⟨hk.1.1.2, ⟨hk.1.2, hk.2⟩⟩⟩⟩))))) (Reps.none _ _))))
        intro a5f a5g j9 hb hg_ hnew_
        clear hg_ hnew_
        (first | rw [← p7.out] at j9 | (simp only [Int.reduceToNat] at j9; rw [← p7.out] at j9))
        replace a3 := zA (Kd.V_elder' (zV a3.out) (Kd.N_base j9) hb)
        replace a7 := zr a7 hb
        have y4 := zA (Kd.N_lower j9 (below_size (zW HB.out)))
        replace a1 := zb a1 hb
        replace a4 := zb a4 hb
        replace b0 := zb b0 hb
        replace HB := zh HB hb
        clear l1
        clear hb j9
        refine hK.out _ _ zO fun hHeld => ?_
        clear hK K
        refine zn ?_
        refine zp 4 6 ?_
        refine done_ (by kernel_rfl) ?_
        try go_wp2
        go_ret
        exact ⟨_, zE, zNt (Kd.N_mono y4.out (fun _ hk => hk.1)), zW HB.out⟩
       ·obtain ⟨y5, n6⟩ : ∃ y_ : List (S75), y_ = (([(⟨0, (⟨a8, a9, b1, a5⟩ : S32)⟩ : S75)] : List (S75))) := ⟨_, rfl⟩
        replace H : (some y5) = some r := zY n6 H
        have q1 := Aside0.mk n6
        clear n6
        obtain rfl := Option.some.inj H
        go_enter Tryz.func169, Tryz.ntmps169
        go_wp2_with (first | ((with_reducible refine zd 4 ?_); refine ze 4 32 #[.int .i64 a8, .int .i64 a9, .int .i64 b1, .slice b6 a5.length b5] ?_; intro b4 hg a5h hbox hb; replace a3 := zA (Kd.V_below (Kd.V_elderB (zV a3.out) b4 (Nat.le_of_eq hg.symm)) hb); have a1 := zA (hbox); have e3 := zi HB hg; have e4 := zi HB hg; replace HB := zA (below_step (zB) hb); clear hb hbox hg; obtain ⟨a5i, a5j, a5k, a5l, a5m, a5n, a5o, a5p⟩ := ze4 a1.out) | ((with_reducible refine zd 7 ?_); refine ze 7 75 #[.int .i64 0, .int .i64 0, .int .i64 0, .int .i64 0, .slice none 0 0] ?_; intro b3 hg a5q hbox hb; replace a3 := zA (Kd.V_below (Kd.V_elderB (zV a3.out) b3 (Nat.le_of_eq hg.symm)) hb); have a4 := zA (hbox); have e5 := zi HB hg; have e6 := zi HB hg; replace HB := zh HB hb; have c2 := zA (zL hg (zK a1.out)); have c3 := zA (zJ hg (zK a1.out)); replace a1 := zb a1 hb; clear hb hbox hg; have a5r := c3.out; have a5s := c2.out; obtain ⟨a5t, a5v, a5x, a5y, a5z, a60, a61, a62, a63, a64⟩ := ze5 a4.out; obtain ⟨a65, a66, a67, a68, a69, a6a, a6b, a6c⟩ := ze4 a1.out) | ((with_reducible refine zq 191 ?_); refine zg (some 16) Tryz.func191 #[.agg #[.int .i64 a8, .int .i64 a9, .int .i64 b1, .slice b6 a5.length b5], .int .i64 a2] ?_; (with_reducible refine (impl_nextOf.calls a8 a9 b1 _ _ a5 a2 b9 c0 c1 b2 _ ?side1 ?side2 A4.out).mono ?_); (case side1 => refine (Kd.V_reads' (e := 9) (base := w.heap.size) (ok := fun k_ => (((b8 k_ ∨ w.heap.size ≤ k_) ∧ k_ ≠ b4) ∧ k_ ≠ b3)) (n := a5.length) (c := b5) ?_).2.2; exact (zVt (zv5 a3.out (fun _ hk => hk.2)))); (case side2 => exact (Kd.V_reads' a3.out).2.1); rintro e a6d ⟨e7, rfl, b7, hb⟩; refine ⟨_, rfl, ?_⟩; replace a3 := zA (Kd.V_elder' (zVt (zv5 a3.out (fun _ hk => hk.2))) (Kd.R_base b7) hb); have a7 := zA (Kd.R_lower (Kd.R_newM (M := fun k_ => (w.heap.size ≤ k_)) b7 (below_size (zW HB.out)) (fun k_ h_ => h_)) (below_size (zW HB.out))); replace a1 := zb a1 hb; replace a4 := zA (blk_below (zk5 a4.out) hb); replace HB := zh HB hb; (try clear hb b7)) | ((with_reducible refine zd 9 ?_); refine ze 9 32 #[.int .i64 0, .int .i64 0, .int .i64 0, .slice none 0 0] ?_; intro a6 hg y6 hbox hb; replace a3 := zA (Kd.V_below (Kd.V_elderB (zV a3.out) a6 (Nat.le_of_eq hg.symm)) hb); replace a7 := zr a7 hb; have b0 := zA (hbox); have e8 := zi HB hg; have e9 := zi HB hg; replace HB := zh HB hb; have c4 := zA (zL hg (zK a1.out)); have c6 := zA (zJ hg (zK a1.out)); replace a1 := zb a1 hb; have c7 := zA (zL hg (zK a4.out)); have c8 := zA (zJ hg (zK a4.out)); replace a4 := zb a4 hb; clear hb hbox hg; have a6e := c6.out; have a6f := c4.out; have a6g := c8.out; have a6h := c7.out; obtain ⟨a6i, a6j, a6k, a6l, a6m, a6n, a6o, a6p⟩ := ze4 b0.out; obtain ⟨f6, f7, y7⟩ := Kd.R_slice a7.out; subst y7) | ((with_reducible refine gate_store (t := 32) (p := 9) rfl ?_); refine store_event (t := 32) (p := 9) (v := ?vo_w187) (w1 := ((((y6.setCell ⟨a6, 0, none⟩ (.int .i64 b9)).setCell ⟨a6, 1, none⟩ (.int .i64 c0)).setCell ⟨a6, 2, none⟩ (.int .i64 c1)).setCell ⟨a6, 3, none⟩ (.slice f6 b2.length f7))) ?hg ?ho ?hn ?hr ?_; (case ho => rfl); (case hg => rfl); (case hn => rfl); (case hr => first | (go_simp; done) | (go_simp; rfl)); intro n7 hw; replace a3 : Aside0 (Kd.V Kd.string 9 n7 w.heap.size (fun k_ => (b8 k_ ∨ w.heap.size ≤ k_) ∧ some k_ ≠ (.slice f6 b2.length f7 : Value).ownBlock ∧ k_ ≠ b4 ∧ k_ ≠ b3 ∧ k_ ≠ a6) (.slice b6 a5.length b5) a5) := ⟨(by rw [hw]; exact (zVt (Kd.V_mono (zv4 a3.out (fun _ hk => hk.2)) (fun _ hk => ⟨hk.1.1.1.1, ⟨hk.1.2, ⟨hk.1.1.1.2, ⟨hk.1.1.2, hk.2⟩⟩⟩⟩))))⟩; replace a7 : Aside0 (Kd.R Kd.string 9 n7 w.heap.size (fun k_ => (w.heap.size ≤ k_)) (.slice f6 b2.length f7) b2) := ⟨(by rw [hw]; exact (zR (Kd.R_mono (zr4 a7.out b0.out) (fun _ hk => hk.1))))⟩; replace a1 := zA (zh1 hw (zK a1.out)); replace a4 := zA (zh1 hw (zK a4.out)); replace b0 := zA (zh1 hw (zk4 b0.out)); replace HB := zA (zh2 hw (zW HB.out)); clear hw; obtain ⟨a6q, a6r, a6s, a6t, a6v, a6x, a6y, a6z⟩ := ze4 a1.out) | ((with_reducible refine gate_dst (N := 73) rfl ?_); refine Kd.N_lit k75 _ 75 ?hg (N' := 73) ?hd (xs := ([(⟨0, (⟨a8, a9, b1, a5⟩ : S32)⟩ : S75)] : List (S75))) (inner := [.int .i64 0, .int .i64 a8, .int .i64 a9, .int .i64 b1, .slice b6 a5.length b5]) (ok := (fun k_ => (b8 k_ ∨ w.heap.size ≤ k_) ∧ some k_ ≠ (.slice f6 b2.length f7 : Value).ownBlock ∧ k_ ≠ b4 ∧ k_ ≠ b3 ∧ k_ ≠ a6)) ?hr ?hp (fun _ hk => hk) ((show ∀ k_, n7.heap.size ≤ k_ → (fun k_ => (b8 k_ ∨ w.heap.size ≤ k_) ∧ some k_ ≠ (.slice f6 b2.length f7 : Value).ownBlock ∧ k_ ≠ b4 ∧ k_ ≠ b3 ∧ k_ ≠ a6) k_ from fun k_ hk => ⟨(.inr (Nat.le_trans (below_size (zW HB.out)) hk)), Kd.fresh' (Kd.R_lt (zR a7.out)) k_ hk, Kd.freshB (g := b4) (o := .cells #[.int .i64 a8, .int .i64 a9, .int .i64 b1, .slice b6 a5.length b5] 32 (0, 0)) (zK a1.out) k_ hk, Kd.freshB (g := b3) (o := .cells #[.int .i64 4, .int .i64 a8, .int .i64 a9, .int .i64 b1, .slice b6 a5.length b5] 75 (0, 0)) (zK a4.out) k_ hk, Kd.freshB (g := a6) (o := .cells #[.int .i64 b9, .int .i64 c0, .int .i64 c1, .slice f6 b2.length f7] 32 (0, 0)) (zK b0.out) k_ hk⟩) _ (Nat.le_refl _)) (Below.refl _ _) (Nat.le_refl _) (by simp) ?_; (case hd => rfl); (case hg => rfl); (case hr => first | (go_simp; done) | (go_simp; rfl)); (case hp => exact (Reps.c5 (show Kd.FK k75 _ _ (⟨0, (⟨a8, a9, b1, a5⟩ : S32)⟩ : S75) [.int .i64 0, .int .i64 a8, .int .i64 a9, .int .i64 b1, .slice b6 a5.length b5] from (k75_mkF _ _ (⟨0, (⟨a8, a9, b1, a5⟩ : S32)⟩ : S75) (Kd.V_reads' (Kd.V_mono (ok' := (fun k_ => (b8 k_ ∨ w.heap.size ≤ k_) ∧ some k_ ≠ (.slice f6 b2.length f7 : Value).ownBlock ∧ k_ ≠ b4 ∧ k_ ≠ b3 ∧ k_ ≠ a6)) (a3.out) (fun k_ hk => ⟨hk.1, ⟨hk.2.1, ⟨hk.2.2.1, ⟨hk.2.2.2.1, hk.2.2.2.2⟩⟩⟩⟩))).2.1 (Kd.V_F (Kd.V_mono (ok' := (fun k_ => (b8 k_ ∨ w.heap.size ≤ k_) ∧ some k_ ≠ (.slice f6 b2.length f7 : Value).ownBlock ∧ k_ ≠ b4 ∧ k_ ≠ b3 ∧ k_ ≠ a6)) (a3.out) (fun k_ hk => ⟨hk.1, ⟨hk.2.1, ⟨hk.2.2.1, ⟨hk.2.2.2.1, hk.2.2.2.2⟩⟩⟩⟩))))) (Reps.none _ _))); intro a70 a71 k0 hb hg_ hnew_; clear hg_ hnew_; (first | rw [← q1.out] at k0 | (simp only [Int.reduceToNat] at k0; rw [← q1.out] at k0)); replace a3 := zA (Kd.V_elder' (zV a3.out) (Kd.N_base k0) hb); replace a7 := zr a7 hb; have y8 := zA (Kd.N_lower k0 (below_size (zW HB.out))); replace a1 := zb a1 hb; replace a4 := zb a4 hb; replace b0 := zb b0 hb; replace HB := zh HB hb; clear hb k0))
        go_ret
        exact ⟨_, zE, zNt (Kd.N_mono y8.out (fun _ hk => hk.1)), zW HB.out⟩
end Go.Proofs.YtpcdhoeoefoeoaaGreatDoor.PGC
