/- The walks of the functions that these laws reach, and what each comes to: printed by this session's program. -/
import Derived.Test.YtpcdhoeoefoeoaaGreatDoorZGDPGDx0
import Derived.Test.YtpcdhoeoefoeoaaGreatDoorZGDPGDx14
import Derived.Test.YtpcdhoeoefoeoaaGreatDoorZGDSays
import Derived.Test.YtpcdhoeoefoeoaaGreatDoorZGDRegN
import Derived.Test.YtpcdhoeoefoeoaaGreatDoorZGDRegs
import Derived.Test.YtpcdhoeoefoeoaaGreatDoorZGDPGDx12
namespace Go.Proofs.YtpcdhoeoefoeoaaGreatDoor.PGD
open Go.RowKit YtpcdhoeoefoeoaaGreatDoorW.PrintWords YtpcdhoeoefoeoaaGreatDoorW.PrintLast YtpcdhoeoefoeoaaGreatDoorW.PrintMore
attribute [local go_sem high] Mine.str_gtr Mine.str_leq Mine.str_geq
attribute [local go_sem] max2_int min2_int max_two min_two max_three min_three max_four min_four   -- for this text's walks alone
set_option linter.unusedVariables false
set_option maxHeartbeats 8000000
set_option maxRecDepth 100000
set_option linter.unusedSimpArgs false
/-! ### impl_wordCmps: function 169 -/
def impl_wordCmps.f (k : Nat) (a0 : ByteArray) (a3 a4 a5 : Int) (a6 : List ByteArray) (a2 : Int) : Option ((List (S75))) := (impl_nextOf.f a3 a4 a5 a6 a2).bind fun a1 => (if a0.toList = ([62, 61] : List UInt8) then (some (([(⟨4, (⟨a3, a4, a5, a6⟩ : S32)⟩ : S75)] : List (S75)))) else (if a0.toList = ([60] : List UInt8) then (some (([(⟨1, (⟨a3, a4, a5, a6⟩ : S32)⟩ : S75)] : List (S75)))) else (if a0.toList = ([62] : List UInt8) then (if a2 < 3 then (some (([(⟨4, (⟨a1.1, a1.2.1, a1.2.2.1, a1.2.2.2⟩ : S32)⟩ : S75)] : List (S75)))) else (some (([(⟨3, (⟨a3, a4, a5, a6⟩ : S32)⟩ : S75)] : List (S75))))) else (if a0.toList = ([60, 61] : List UInt8) then (if a2 < 3 then ((impl_below.f a1.1 a1.2.1 a1.2.2.1 a1.2.2.2).bind fun a7 => (some (([(⟨a7.1, (⟨a7.2.1, a7.2.2.1, a7.2.2.2.1, a7.2.2.2.2⟩ : S32)⟩ : S75)] : List (S75))))) else (some (([(⟨2, (⟨a3, a4, a5, a6⟩ : S32)⟩ : S75)] : List (S75))))) else (if a0.toList = ([126] : List UInt8) then ((impl_nextOf.f a3 a4 0 ([] : List ByteArray) (mn a2 2)).bind fun b1 => ((impl_below.f b1.1 b1.2.1 b1.2.2.1 b1.2.2.2).bind fun a8 => (some (([(⟨4, (⟨a3, a4, a5, a6⟩ : S32)⟩ : S75), (⟨a8.1, (⟨a8.2.1, a8.2.2.1, a8.2.2.2.1, a8.2.2.2.2⟩ : S32)⟩ : S75)] : List (S75)))))) else (if a0.toList = ([94] : List UInt8) then ((impl_caret.f k a3 a4 a5 a6 a2).bind fun b2 => ((impl_below.f b2.1 b2.2.1 b2.2.2.1 b2.2.2.2).bind fun a9 => (some (([(⟨4, (⟨a3, a4, a5, a6⟩ : S32)⟩ : S75), (⟨a9.1, (⟨a9.2.1, a9.2.2.1, a9.2.2.2.1, a9.2.2.2.2⟩ : S32)⟩ : S75)] : List (S75)))))) else (if a2 < 3 then ((impl_below.f a1.1 a1.2.1 a1.2.2.1 a1.2.2.2).bind fun b0 => (some (([(⟨4, (⟨a3, a4, a5, a6⟩ : S32)⟩ : S75), (⟨b0.1, (⟨b0.2.1, b0.2.2.1, b0.2.2.2.1, b0.2.2.2.2⟩ : S32)⟩ : S75)] : List (S75))))) else (some (([(⟨0, (⟨a3, a4, a5, a6⟩ : S32)⟩ : S75)] : List (S75)))))))))))
def impl_wordCmps.T18 : Bool × List (List Nat × List Nat) := (true, [([], []), ([], []), ([1], [1]), ([], []), ([3], [3]), ([2, 4], [2, 4]), ([], []), ([6], [6]), ([5, 7], [5, 7]), ([8, 8], [8]), ([0, 9], [0, 9]), ([10, 9, 0, 1, 2, 3, 4, 5, 6, 7, 8, 9, 10], [10])])
def impl_wordCmps.B18 : List Nat := [0, 0, 2, 0, 8, 30, 0, 64, 254, 510, 1023, 2047]
theorem impl_wordCmps.tab18 : rtab .any (opsOf Tryz.f169 18) = impl_wordCmps.T18 := by kernel_rfl
theorem impl_wordCmps.bits18 : waitsOk impl_wordCmps.T18.2 impl_wordCmps.B18 = true := by kernel_rfl
theorem impl_wordCmps.calls (k : Nat) (a0 : ByteArray) (b0 b1 b2 : Int) (b7 : Nat → Prop) (b9 : Option Addr) (b8 : Nat) (a6 : List ByteArray) (a2 : Int) (r : List (S75)) (w : World) (p0 : Kd.V Kd.string 9 w w.heap.size (fun k_ => b7 k_) (.slice b9 a6.length b8) a6) (h : impl_wordCmps.f k a0 b0 b1 b2 a6 a2 = some r) :
  Calls Tryz.prog 169 #[.string a0, .agg #[.int .i64 b0, .int .i64 b1, .int .i64 b2, .slice b9 a6.length b8], .int .i64 a2] w fun e w' => ∃ l3 : Value, e = .returned (l3) ∧ Kd.N k75 75 w' w.heap.size (fun k_ => (b7 k_ ∨ w.heap.size ≤ k_)) l3 r ∧ Below w.heap.size w w' := by
 have t8 := Tryz.underlying32
 have t9 := Tryz.underlying75
 have a4 := zA (show Kd.V Kd.string 9 w w.heap.size (fun k_ => (b7 k_ ∨ w.heap.size ≤ k_)) (.slice b9 a6.length b8) a6 from Kd.V_mono p0 (fun k_ hk => .inl hk))
 have HB := zA (Below.refl w.heap.size w)
 unfold impl_wordCmps.f at h
 have H := h
 clear h
 replace H := Option.bind_eq_some_iff.mp H
 obtain ⟨⟨c1, c2, c3, a9⟩, l4, H⟩ := H
 try dsimp only at H
 have A4 := zA l4
 clear l4
 go_enter Tryz.func169, Tryz.ntmps169
 go_upto_if 18 with (first | ((with_reducible refine zd 4 ?_); refine ze 4 32 #[.int .i64 b0, .int .i64 b1, .int .i64 b2, .slice b9 a6.length b8] ?_; intro b6 hg w6 hbox hb; replace a4 := zA (Kd.V_below (Kd.V_elderB (zV a4.out) b6 (Nat.le_of_eq hg.symm)) hb); have a1 := zA (hbox); have v0 := zi HB hg; have v1 := zi HB hg; replace HB := zA (below_step (zB) hb); clear hb hbox hg; obtain ⟨v2, v3, v4, v5, v6, v7, v8, v9⟩ := ze4 a1.out) | ((with_reducible refine zd 7 ?_); refine ze 7 75 #[.int .i64 0, .int .i64 0, .int .i64 0, .int .i64 0, .slice none 0 0] ?_; intro b5 hg w8 hbox hb; replace a4 := zA (Kd.V_below (Kd.V_elderB (zV a4.out) b5 (Nat.le_of_eq hg.symm)) hb); have a5 := zA (hbox); have x0 := zi HB hg; have x1 := zi HB hg; replace HB := zh HB hb; have p1 := zA (zL hg (zK a1.out)); have p2 := zA (zJ hg (zK a1.out)); replace a1 := zb a1 hb; clear hb hbox hg; have x2 := p2.out; have x3 := p1.out; obtain ⟨x4, x5, x6, x7, x8, x9, y0, y1, y2, y3⟩ := ze5 a5.out; obtain ⟨y4, y5, y6, y7, y8, y9, z0, z1⟩ := ze4 a1.out) | ((with_reducible refine zq 191 ?_); refine zg (some 16) Tryz.func191 #[.agg #[.int .i64 b0, .int .i64 b1, .int .i64 b2, .slice b9 a6.length b8], .int .i64 a2] ?_; (with_reducible refine (impl_nextOf.calls b0 b1 b2 _ _ a6 a2 c1 c2 c3 a9 _ ?s1 ?s2 A4.out).mono ?_); (case s1 => refine (Kd.V_reads' (e := 9) (base := w.heap.size) (ok := fun k_ => (((b7 k_ ∨ w.heap.size ≤ k_) ∧ k_ ≠ b6) ∧ k_ ≠ b5)) (n := a6.length) (c := b8) ?_).2.2; exact (zVt (zv5 a4.out (fun _ hk => hk.2)))); (case s2 => exact (Kd.V_reads' a4.out).2.1); rintro e z2 ⟨z3, rfl, c0, hb⟩; refine ⟨_, rfl, ?_⟩; replace a4 := zA (Kd.V_elder' (zVt (zv5 a4.out (fun _ hk => hk.2))) (Kd.R_base c0) hb); have a7 := zA (Kd.R_lower (Kd.R_newM (M := fun k_ => (w.heap.size ≤ k_)) c0 (below_size (zW HB.out)) (fun k_ h_ => h_)) (below_size (zW HB.out))); replace a1 := zb a1 hb; replace a5 := zA (blk_below (zk5 a5.out) hb); replace HB := zh HB hb; (try clear hb c0)) | ((with_reducible refine zd 9 ?_); refine ze 9 32 #[.int .i64 0, .int .i64 0, .int .i64 0, .slice none 0 0] ?_; intro a8 hg c9 hbox hb; replace a4 := zA (Kd.V_below (Kd.V_elderB (zV a4.out) a8 (Nat.le_of_eq hg.symm)) hb); replace a7 := zr a7 hb; have a3 := zA (hbox); have z4 := zi HB hg; have z5 := zi HB hg; replace HB := zh HB hb; have p3 := zA (zL hg (zK a1.out)); have p4 := zA (zJ hg (zK a1.out)); replace a1 := zb a1 hb; have p5 := zA (zL hg (zK a5.out)); have p6 := zA (zJ hg (zK a5.out)); replace a5 := zb a5 hb; clear hb hbox hg; have z6 := p4.out; have z7 := p3.out; have z8 := p6.out; have z9 := p5.out; obtain ⟨A0, A1, A2, A3, A5, A6, A7, A8⟩ := ze4 a3.out; obtain ⟨b4, b3, p7⟩ := Kd.R_slice a7.out; subst p7))
 (try simp only [Act.put, zT])
 replace H := zI1 H
 rcases H with ⟨c5, H⟩ | ⟨c5, H⟩
 ·have c4 := beq_iff_eq.mpr c5
  have c6 := bne_eq_false_iff_eq.mpr c5
  clear c5
  obtain ⟨p8, j1⟩ : ∃ y_ : List (S75), y_ = (([(⟨4, (⟨b0, b1, b2, a6⟩ : S32)⟩ : S75)] : List (S75))) := ⟨_, rfl⟩
  replace H : (some p8) = some r := zY j1 H
  have l5 := zA j1
  clear j1
  obtain rfl := zm H
  generalize hw_ : ((((c9.setCell ⟨a8, 0, none⟩ (.int .i64 c1)).setCell ⟨a8, 1, none⟩ (.int .i64 c2)).setCell ⟨a8, 2, none⟩ (.int .i64 c3)).setCell ⟨a8, 3, none⟩ (.slice b4 a9.length b3)) = l6
  have hw := hw_.symm
  clear hw_
  replace a4 : Aside0 (Kd.V Kd.string 9 l6 w.heap.size (fun k_ => (b7 k_ ∨ w.heap.size ≤ k_) ∧ some k_ ≠ (.slice b4 a9.length b3 : Value).ownBlock ∧ k_ ≠ b6 ∧ k_ ≠ b5 ∧ k_ ≠ a8) (.slice b9 a6.length b8) a6) := ⟨(by rw [hw]; exact (zVt (Kd.V_mono (zv4 a4.out (fun _ hk => hk.2)) (fun _ hk => ⟨hk.1.1.1.1, ⟨hk.1.2, ⟨hk.1.1.1.2, ⟨hk.1.1.2, hk.2⟩⟩⟩⟩))))⟩
  replace a7 : Aside0 (Kd.R Kd.string 9 l6 w.heap.size (fun k_ => (w.heap.size ≤ k_)) (.slice b4 a9.length b3) a9) := ⟨(by rw [hw]; exact (zR (Kd.R_mono (zr4 a7.out a3.out) (fun _ hk => hk.1))))⟩
  replace a1 := zA (zh1 hw (zK a1.out))
  replace a5 := zA (zh1 hw (zK a5.out))
  replace a3 := zA (zh1 hw (zk4 a3.out))
  replace HB := zA (zh2 hw (zW HB.out))
  clear hw
  obtain ⟨A9, B0, B1, B2, B3, B4, B5, B6, B7, B8⟩ := ze5 a5.out
  (try simp only [c4, c6])
  go_wp2_with (first | ((with_reducible refine gate_dst (N := 21) rfl ?_); refine zNl k75 75 21 (xs := ([(⟨4, (⟨b0, b1, b2, a6⟩ : S32)⟩ : S75)] : List (S75))) (inner := [.int .i64 4, .int .i64 b0, .int .i64 b1, .int .i64 b2, .slice b9 a6.length b8]) (ok := (fun k_ => (b7 k_ ∨ w.heap.size ≤ k_) ∧ some k_ ≠ (.slice b4 a9.length b3 : Value).ownBlock ∧ k_ ≠ b6 ∧ k_ ≠ b5 ∧ k_ ≠ a8)) ((Reps.c5 (show Kd.FK k75 _ _ (⟨4, (⟨b0, b1, b2, a6⟩ : S32)⟩ : S75) [.int .i64 4, .int .i64 b0, .int .i64 b1, .int .i64 b2, .slice b9 a6.length b8] from (k75_mkF _ _ (⟨4, (⟨b0, b1, b2, a6⟩ : S32)⟩ : S75) (Kd.V_reads' (a4.out)).2.1 (Kd.V_F (a4.out)))) (Reps.none _ _))) (fun k_ hk => ⟨(.inr (Nat.le_trans (below_size (zW HB.out)) hk)), Kd.fresh' (Kd.R_lt (zR a7.out)) k_ hk, Kd.freshB (zK a1.out) k_ hk, Kd.freshB (zK a5.out) k_ hk, Kd.freshB (zK a3.out) k_ hk⟩) ?_; intro B9 C0 g5 hb hg_ hnew_; clear hg_ hnew_; (first | rw [← l5.out] at g5 | (simp only [Int.reduceToNat] at g5; rw [← l5.out] at g5)); replace a4 := zA (Kd.V_elder' (zV a4.out) (Kd.N_base g5) hb); replace a7 := zr a7 hb; have p9 := zA (Kd.N_lower g5 (below_size (zW HB.out))); replace a1 := zb a1 hb; replace a5 := zb a5 hb; replace a3 := zb a3 hb; replace HB := zh HB hb; clear hb g5))
  go_ret
  exact ⟨_, zE, zNt (Kd.N_mono p9.out (fun _ hk => hk.1)), zW HB.out⟩
 ·have c4 := beq_eq_false_iff_ne.mpr c5
  have c6 := bne_iff_ne.mpr c5
  replace H := zI1 H
  rcases H with ⟨g6, H⟩ | ⟨g6, H⟩
  ·have c7 := beq_iff_eq.mpr g6
   have c8 := bne_eq_false_iff_eq.mpr g6
   clear g6
   obtain ⟨q0, j2⟩ : ∃ y_ : List (S75), y_ = (([(⟨1, (⟨b0, b1, b2, a6⟩ : S32)⟩ : S75)] : List (S75))) := ⟨_, rfl⟩
   replace H : (some q0) = some r := zY j2 H
   have l7 := zA j2
   clear j2
   obtain rfl := zm H
   generalize hw_ : ((((c9.setCell ⟨a8, 0, none⟩ (.int .i64 c1)).setCell ⟨a8, 1, none⟩ (.int .i64 c2)).setCell ⟨a8, 2, none⟩ (.int .i64 c3)).setCell ⟨a8, 3, none⟩ (.slice b4 a9.length b3)) = l8
   have hw := hw_.symm
   clear hw_
   replace a4 : Aside0 (Kd.V Kd.string 9 l8 w.heap.size (fun k_ => (b7 k_ ∨ w.heap.size ≤ k_) ∧ some k_ ≠ (.slice b4 a9.length b3 : Value).ownBlock ∧ k_ ≠ b6 ∧ k_ ≠ b5 ∧ k_ ≠ a8) (.slice b9 a6.length b8) a6) := ⟨(by rw [hw]; exact (zVt (Kd.V_mono (zv4 a4.out (fun _ hk => hk.2)) (fun _ hk => ⟨hk.1.1.1.1, ⟨hk.1.2, ⟨hk.1.1.1.2, ⟨hk.1.1.2, hk.2⟩⟩⟩⟩))))⟩
   replace a7 : Aside0 (Kd.R Kd.string 9 l8 w.heap.size (fun k_ => (w.heap.size ≤ k_)) (.slice b4 a9.length b3) a9) := ⟨(by rw [hw]; exact (zR (Kd.R_mono (zr4 a7.out a3.out) (fun _ hk => hk.1))))⟩
   replace a1 := zA (zh1 hw (zK a1.out))
   replace a5 := zA (zh1 hw (zK a5.out))
   replace a3 := zA (zh1 hw (zk4 a3.out))
   replace HB := zA (zh2 hw (zW HB.out))
   clear hw
   obtain ⟨C1, C2, C3, C4, C5, C6, C7, C8⟩ := ze4 a1.out
   (try simp only [c4, c6, c7, c8])
   go_wp2_with (first | ((with_reducible refine gate_dst (N := 26) rfl ?_); refine zNl k75 75 26 (xs := ([(⟨1, (⟨b0, b1, b2, a6⟩ : S32)⟩ : S75)] : List (S75))) (inner := [.int .i64 1, .int .i64 b0, .int .i64 b1, .int .i64 b2, .slice b9 a6.length b8]) (ok := (fun k_ => (b7 k_ ∨ w.heap.size ≤ k_) ∧ some k_ ≠ (.slice b4 a9.length b3 : Value).ownBlock ∧ k_ ≠ b6 ∧ k_ ≠ b5 ∧ k_ ≠ a8)) ((Reps.c5 (show Kd.FK k75 _ _ (⟨1, (⟨b0, b1, b2, a6⟩ : S32)⟩ : S75) [.int .i64 1, .int .i64 b0, .int .i64 b1, .int .i64 b2, .slice b9 a6.length b8] from (k75_mkF _ _ (⟨1, (⟨b0, b1, b2, a6⟩ : S32)⟩ : S75) (Kd.V_reads' (a4.out)).2.1 (Kd.V_F (a4.out)))) (Reps.none _ _))) (fun k_ hk => ⟨(.inr (Nat.le_trans (below_size (zW HB.out)) hk)), Kd.fresh' (Kd.R_lt (zR a7.out)) k_ hk, Kd.freshB (zK a1.out) k_ hk, Kd.freshB (zK a5.out) k_ hk, Kd.freshB (zK a3.out) k_ hk⟩) ?_; intro C9 D0 g7 hb hg_ hnew_; clear hg_ hnew_; (first | rw [← l7.out] at g7 | (simp only [Int.reduceToNat] at g7; rw [← l7.out] at g7)); replace a4 := zA (Kd.V_elder' (zV a4.out) (Kd.N_base g7) hb); replace a7 := zr a7 hb; have q1 := zA (Kd.N_lower g7 (below_size (zW HB.out))); replace a1 := zb a1 hb; replace a5 := zb a5 hb; replace a3 := zb a3 hb; replace HB := zh HB hb; clear hb g7))
   go_ret
   exact ⟨_, zE, zNt (Kd.N_mono q1.out (fun _ hk => hk.1)), zW HB.out⟩
  ·have c7 := beq_eq_false_iff_ne.mpr g6
   have c8 := bne_iff_ne.mpr g6
   replace H := zI1 H
   rcases H with ⟨g8, H⟩ | ⟨g8, H⟩
   ·have d0 := beq_iff_eq.mpr g8
    have d1 := bne_eq_false_iff_eq.mpr g8
    clear g8
    replace H := zI0 H
    rcases H with ⟨j3, H⟩ | ⟨j3, H⟩
    ·obtain ⟨q2, j4⟩ : ∃ y_ : List (S75), y_ = (([(⟨4, (⟨c1, c2, c3, a9⟩ : S32)⟩ : S75)] : List (S75))) := ⟨_, rfl⟩
     replace H : (some q2) = some r := zY j4 H
     have l9 := zA j4
     clear j4
     obtain rfl := zm H
     generalize hw_ : ((((c9.setCell ⟨a8, 0, none⟩ (.int .i64 c1)).setCell ⟨a8, 1, none⟩ (.int .i64 c2)).setCell ⟨a8, 2, none⟩ (.int .i64 c3)).setCell ⟨a8, 3, none⟩ (.slice b4 a9.length b3)) = m0
     have hw := hw_.symm
     clear hw_
     replace a4 : Aside0 (Kd.V Kd.string 9 m0 w.heap.size (fun k_ => (b7 k_ ∨ w.heap.size ≤ k_) ∧ some k_ ≠ (.slice b4 a9.length b3 : Value).ownBlock ∧ k_ ≠ b6 ∧ k_ ≠ b5 ∧ k_ ≠ a8) (.slice b9 a6.length b8) a6) := ⟨(by rw [hw]; exact (zVt (Kd.V_mono (zv4 a4.out (fun _ hk => hk.2)) (fun _ hk => ⟨hk.1.1.1.1, ⟨hk.1.2, ⟨hk.1.1.1.2, ⟨hk.1.1.2, hk.2⟩⟩⟩⟩))))⟩
     replace a7 : Aside0 (Kd.R Kd.string 9 m0 w.heap.size (fun k_ => (w.heap.size ≤ k_)) (.slice b4 a9.length b3) a9) := ⟨(by rw [hw]; exact (zR (Kd.R_mono (zr4 a7.out a3.out) (fun _ hk => hk.1))))⟩
     replace a1 := zA (zh1 hw (zK a1.out))
     replace a5 := zA (zh1 hw (zK a5.out))
     replace a3 := zA (zh1 hw (zk4 a3.out))
     replace HB := zA (zh2 hw (zW HB.out))
     clear hw
     obtain ⟨D1, D2, D3, D4, D5, D6, D7, D8⟩ := ze4 a3.out
     (try simp only [c4, c6, c7, c8, d0, d1, j3])
     go_wp2_with (first | ((with_reducible refine gate_dst (N := 32) rfl ?_); refine zNl k75 75 32 (xs := ([(⟨4, (⟨c1, c2, c3, a9⟩ : S32)⟩ : S75)] : List (S75))) (inner := [.int .i64 4, .int .i64 c1, .int .i64 c2, .int .i64 c3, .slice b4 a9.length b3]) (ok := (fun k_ => (b7 k_ ∨ w.heap.size ≤ k_) ∧ k_ ≠ b6 ∧ k_ ≠ b5 ∧ k_ ≠ a8)) ((Reps.c5 (show Kd.FK k75 _ _ (⟨4, (⟨c1, c2, c3, a9⟩ : S32)⟩ : S75) [.int .i64 4, .int .i64 c1, .int .i64 c2, .int .i64 c3, .slice b4 a9.length b3] from (k75_mkF _ _ (⟨4, (⟨c1, c2, c3, a9⟩ : S32)⟩ : S75) (Kd.R_reads' (Kd.R_mono (ok' := (fun k_ => (b7 k_ ∨ w.heap.size ≤ k_) ∧ k_ ≠ b6 ∧ k_ ≠ b5 ∧ k_ ≠ a8)) (Kd.R_types (Kd.R_types (Kd.R_types (a7.out) a1.out (by decide)) a5.out (by decide)) a3.out (by decide)) (fun k_ hk => ⟨(.inr (hk.1.1.1)), ⟨hk.1.1.2, ⟨hk.1.2, hk.2⟩⟩⟩))).2.1 (Kd.R_F (Kd.R_mono (ok' := (fun k_ => (b7 k_ ∨ w.heap.size ≤ k_) ∧ k_ ≠ b6 ∧ k_ ≠ b5 ∧ k_ ≠ a8)) (Kd.R_types (Kd.R_types (Kd.R_types (a7.out) a1.out (by decide)) a5.out (by decide)) a3.out (by decide)) (fun k_ hk => ⟨(.inr (hk.1.1.1)), ⟨hk.1.1.2, ⟨hk.1.2, hk.2⟩⟩⟩))))) (Reps.none _ _))) (fun k_ hk => ⟨(.inr (Nat.le_trans (below_size (zW HB.out)) hk)), Kd.freshB (zK a1.out) k_ hk, Kd.freshB (zK a5.out) k_ hk, Kd.freshB (zK a3.out) k_ hk⟩) ?_; intro D9 E0 g9 hb hg_ hnew_; clear hg_ hnew_; (first | rw [← l9.out] at g9 | (simp only [Int.reduceToNat] at g9; rw [← l9.out] at g9)); replace a4 := zA (Kd.V_elder' (zV a4.out) (Kd.N_base g9) hb); have q3 := zA (Kd.N_lower g9 (below_size (zW HB.out))); replace a1 := zb a1 hb; replace a5 := zb a5 hb; replace a3 := zb a3 hb; replace HB := zh HB hb; clear a7; clear hb g9))
     go_ret
     exact ⟨_, zE, zNt (Kd.N_mono q3.out (fun _ hk => hk.1)), zW HB.out⟩
    ·obtain ⟨q4, j5⟩ : ∃ y_ : List (S75), y_ = (([(⟨3, (⟨b0, b1, b2, a6⟩ : S32)⟩ : S75)] : List (S75))) := ⟨_, rfl⟩
     replace H : (some q4) = some r := zY j5 H
     have m1 := zA j5
     clear j5
     obtain rfl := zm H
     generalize hw_ : ((((c9.setCell ⟨a8, 0, none⟩ (.int .i64 c1)).setCell ⟨a8, 1, none⟩ (.int .i64 c2)).setCell ⟨a8, 2, none⟩ (.int .i64 c3)).setCell ⟨a8, 3, none⟩ (.slice b4 a9.length b3)) = m2
     have hw := hw_.symm
     clear hw_
     replace a4 : Aside0 (Kd.V Kd.string 9 m2 w.heap.size (fun k_ => (b7 k_ ∨ w.heap.size ≤ k_) ∧ some k_ ≠ (.slice b4 a9.length b3 : Value).ownBlock ∧ k_ ≠ b6 ∧ k_ ≠ b5 ∧ k_ ≠ a8) (.slice b9 a6.length b8) a6) := ⟨(by rw [hw]; exact (zVt (Kd.V_mono (zv4 a4.out (fun _ hk => hk.2)) (fun _ hk => ⟨hk.1.1.1.1, ⟨hk.1.2, ⟨hk.1.1.1.2, ⟨hk.1.1.2, hk.2⟩⟩⟩⟩))))⟩
     replace a7 : Aside0 (Kd.R Kd.string 9 m2 w.heap.size (fun k_ => (w.heap.size ≤ k_)) (.slice b4 a9.length b3) a9) := ⟨(by rw [hw]; exact (zR (Kd.R_mono (zr4 a7.out a3.out) (fun _ hk => hk.1))))⟩
     replace a1 := zA (zh1 hw (zK a1.out))
     replace a5 := zA (zh1 hw (zK a5.out))
     replace a3 := zA (zh1 hw (zk4 a3.out))
     replace HB := zA (zh2 hw (zW HB.out))
     clear hw
     obtain ⟨E1, E2, E3, E4, E5, E6, E7, E8⟩ := ze4 a1.out
     (try simp only [c4, c6, c7, c8, d0, d1, j3])
     go_wp2_with (first | ((with_reducible refine gate_dst (N := 35) rfl ?_); refine zNl k75 75 35 (xs := ([(⟨3, (⟨b0, b1, b2, a6⟩ : S32)⟩ : S75)] : List (S75))) (inner := [.int .i64 3, .int .i64 b0, .int .i64 b1, .int .i64 b2, .slice b9 a6.length b8]) (ok := (fun k_ => (b7 k_ ∨ w.heap.size ≤ k_) ∧ some k_ ≠ (.slice b4 a9.length b3 : Value).ownBlock ∧ k_ ≠ b6 ∧ k_ ≠ b5 ∧ k_ ≠ a8)) ((Reps.c5 (show Kd.FK k75 _ _ (⟨3, (⟨b0, b1, b2, a6⟩ : S32)⟩ : S75) [.int .i64 3, .int .i64 b0, .int .i64 b1, .int .i64 b2, .slice b9 a6.length b8] from (k75_mkF _ _ (⟨3, (⟨b0, b1, b2, a6⟩ : S32)⟩ : S75) (Kd.V_reads' (a4.out)).2.1 (Kd.V_F (a4.out)))) (Reps.none _ _))) (fun k_ hk => ⟨(.inr (Nat.le_trans (below_size (zW HB.out)) hk)), Kd.fresh' (Kd.R_lt (zR a7.out)) k_ hk, Kd.freshB (zK a1.out) k_ hk, Kd.freshB (zK a5.out) k_ hk, Kd.freshB (zK a3.out) k_ hk⟩) ?_; intro E9 F0 h0 hb hg_ hnew_; clear hg_ hnew_; (first | rw [← m1.out] at h0 | (simp only [Int.reduceToNat] at h0; rw [← m1.out] at h0)); replace a4 := zA (Kd.V_elder' (zV a4.out) (Kd.N_base h0) hb); replace a7 := zr a7 hb; have q5 := zA (Kd.N_lower h0 (below_size (zW HB.out))); replace a1 := zb a1 hb; replace a5 := zb a5 hb; replace a3 := zb a3 hb; replace HB := zh HB hb; clear hb h0))
     go_ret
     exact ⟨_, zE, zNt (Kd.N_mono q5.out (fun _ hk => hk.1)), zW HB.out⟩
   ·have d0 := beq_eq_false_iff_ne.mpr g8
    have d1 := bne_iff_ne.mpr g8
    replace H := zI1 H
    rcases H with ⟨h1, H⟩ | ⟨h1, H⟩
    ·have d8 := beq_iff_eq.mpr h1
     have d9 := bne_eq_false_iff_eq.mpr h1
     clear h1
     replace H := zI0 H
     rcases H with ⟨j6, H⟩ | ⟨j6, H⟩
     ·replace H := Option.bind_eq_some_iff.mp H
      obtain ⟨⟨e0, e1, e2, e3, e4⟩, m3, H⟩ := H
      try dsimp only at H
      have q6 := zA m3
      clear m3
      obtain ⟨q7, j7⟩ : ∃ y_ : List (S75), y_ = (([(⟨e0, (⟨e1, e2, e3, e4⟩ : S32)⟩ : S75)] : List (S75))) := ⟨_, rfl⟩
      replace H : (some q7) = some r := zY j7 H
      have m4 := zA j7
      clear j7
      obtain rfl := zm H
      (try simp only [c4, c6, c7, c8, d0, d1, d8, d9, j6])
      go_wp2_with (first | ((with_reducible refine zq 192 ?_); refine zg (some 40) Tryz.func192 #[.agg #[.int .i64 c1, .int .i64 c2, .int .i64 c3, .slice b4 a9.length b3]] ?_; (with_reducible refine (impl_below.calls c1 c2 c3 _ _ a9 e0 e1 e2 e3 e4 _ ?s1 ?s2 q6.out).mono ?_); (case s1 => refine (Kd.R_reads' (e := 9) (base := w.heap.size) (ok := fun k_ => ((w.heap.size ≤ k_) ∧ True)) (n := a9.length) (c := b3) ?_).2.2; exact (zR (zr4 a7.out a3.out))); (case s2 => exact (Kd.R_reads' a7.out).2.1); rintro e F1 ⟨F2, rfl, c0, hb⟩; refine ⟨_, rfl, ?_⟩; replace a4 := zA (Kd.V_elder' (zVt (zv4 a4.out (fun _ hk => hk.2))) (Kd.R_base c0) hb); have i4 := zA (Kd.R_lower (Kd.R_new' (Kd.R_newM (M := fun k_ => (w.heap.size ≤ k_)) c0 (below_size (zW HB.out)) (fun k_ h_ => h_)) (Kd.R_lt (zR (zr4 a7.out a3.out)))) (below_size (zW HB.out))); replace a7 := zA (Kd.R_elder' (zR (zr4 a7.out a3.out)) (Kd.R_base c0) hb); replace a1 := zb a1 hb; replace a5 := zb a5 hb; replace a3 := zA (blk_below (zk4 a3.out) hb); replace HB := zh HB hb; (try clear hb c0); obtain ⟨m5, m6, q8⟩ := Kd.R_slice i4.out; subst q8) | ((with_reducible refine gate_dst (N := 41) rfl ?_); refine zNl k75 75 41 (xs := ([(⟨e0, (⟨e1, e2, e3, e4⟩ : S32)⟩ : S75)] : List (S75))) (inner := [.int .i64 e0, .int .i64 e1, .int .i64 e2, .int .i64 e3, .slice m5 e4.length m6]) (ok := (fun k_ => (b7 k_ ∨ w.heap.size ≤ k_) ∧ some k_ ≠ (.slice b4 a9.length b3 : Value).ownBlock ∧ k_ ≠ b6 ∧ k_ ≠ b5 ∧ k_ ≠ a8)) ((Reps.c5 (show Kd.FK k75 _ _ (⟨e0, (⟨e1, e2, e3, e4⟩ : S32)⟩ : S75) [.int .i64 e0, .int .i64 e1, .int .i64 e2, .int .i64 e3, .slice m5 e4.length m6] from (k75_mkF _ _ (⟨e0, (⟨e1, e2, e3, e4⟩ : S32)⟩ : S75) (Kd.R_reads' (Kd.R_mono (ok' := (fun k_ => (b7 k_ ∨ w.heap.size ≤ k_) ∧ some k_ ≠ (.slice b4 a9.length b3 : Value).ownBlock ∧ k_ ≠ b6 ∧ k_ ≠ b5 ∧ k_ ≠ a8)) (Kd.R_types (Kd.R_types (Kd.R_types (i4.out) a1.out (by decide)) a5.out (by decide)) a3.out (by decide)) (fun k_ hk => ⟨(.inr (hk.1.1.1.1.1)), ⟨hk.1.1.1.2, ⟨hk.1.1.2, ⟨hk.1.2, hk.2⟩⟩⟩⟩))).2.1 (Kd.R_F (Kd.R_mono (ok' := (fun k_ => (b7 k_ ∨ w.heap.size ≤ k_) ∧ some k_ ≠ (.slice b4 a9.length b3 : Value).ownBlock ∧ k_ ≠ b6 ∧ k_ ≠ b5 ∧ k_ ≠ a8)) (Kd.R_types (Kd.R_types (Kd.R_types (i4.out) a1.out (by decide)) a5.out (by decide)) a3.out (by decide)) (fun k_ hk => ⟨(.inr (hk.1.1.1.1.1)), ⟨hk.1.1.1.2, ⟨hk.1.1.2, ⟨hk.1.2, hk.2⟩⟩⟩⟩))))) (Reps.none _ _))) (fun k_ hk => ⟨(.inr (Nat.le_trans (below_size (zW HB.out)) hk)), Kd.fresh' (Kd.R_lt (zR a7.out)) k_ hk, Kd.freshB (zK a1.out) k_ hk, Kd.freshB (zK a5.out) k_ hk, Kd.freshB (zK a3.out) k_ hk⟩) ?_; intro F3 F4 h2 hb hg_ hnew_; clear hg_ hnew_; (first | rw [← m4.out] at h2 | (simp only [Int.reduceToNat] at h2; rw [← m4.out] at h2)); replace a4 := zA (Kd.V_elder' (zV a4.out) (Kd.N_base h2) hb); replace a7 := zr a7 hb; have q9 := zA (Kd.N_lower h2 (below_size (zW HB.out))); replace a1 := zb a1 hb; replace a5 := zb a5 hb; replace a3 := zb a3 hb; replace HB := zh HB hb; clear i4; clear hb h2))
      go_ret
      exact ⟨_, zE, zNt (Kd.N_mono q9.out (fun _ hk => hk.1)), zW HB.out⟩
     ·obtain ⟨r0, j8⟩ : ∃ y_ : List (S75), y_ = (([(⟨2, (⟨b0, b1, b2, a6⟩ : S32)⟩ : S75)] : List (S75))) := ⟨_, rfl⟩
      replace H : (some r0) = some r := zY j8 H
      have m7 := zA j8
      clear j8
      obtain rfl := zm H
      generalize hw_ : ((((c9.setCell ⟨a8, 0, none⟩ (.int .i64 c1)).setCell ⟨a8, 1, none⟩ (.int .i64 c2)).setCell ⟨a8, 2, none⟩ (.int .i64 c3)).setCell ⟨a8, 3, none⟩ (.slice b4 a9.length b3)) = m8
      have hw := hw_.symm
      clear hw_
      replace a4 : Aside0 (Kd.V Kd.string 9 m8 w.heap.size (fun k_ => (b7 k_ ∨ w.heap.size ≤ k_) ∧ some k_ ≠ (.slice b4 a9.length b3 : Value).ownBlock ∧ k_ ≠ b6 ∧ k_ ≠ b5 ∧ k_ ≠ a8) (.slice b9 a6.length b8) a6) := ⟨(by rw [hw]; exact (zVt (Kd.V_mono (zv4 a4.out (fun _ hk => hk.2)) (fun _ hk => ⟨hk.1.1.1.1, ⟨hk.1.2, ⟨hk.1.1.1.2, ⟨hk.1.1.2, hk.2⟩⟩⟩⟩))))⟩
      replace a7 : Aside0 (Kd.R Kd.string 9 m8 w.heap.size (fun k_ => (w.heap.size ≤ k_)) (.slice b4 a9.length b3) a9) := ⟨(by rw [hw]; exact (zR (Kd.R_mono (zr4 a7.out a3.out) (fun _ hk => hk.1))))⟩
      replace a1 := zA (zh1 hw (zK a1.out))
      replace a5 := zA (zh1 hw (zK a5.out))
      replace a3 := zA (zh1 hw (zk4 a3.out))
      replace HB := zA (zh2 hw (zW HB.out))
      clear hw
      obtain ⟨F5, F6, F7, F8, F9, G0, G1, G2⟩ := ze4 a1.out
      (try simp only [c4, c6, c7, c8, d0, d1, d8, d9, j6])
      go_wp2_with (first | ((with_reducible refine gate_dst (N := 44) rfl ?_); refine zNl k75 75 44 (xs := ([(⟨2, (⟨b0, b1, b2, a6⟩ : S32)⟩ : S75)] : List (S75))) (inner := [.int .i64 2, .int .i64 b0, .int .i64 b1, .int .i64 b2, .slice b9 a6.length b8]) (ok := (fun k_ => (b7 k_ ∨ w.heap.size ≤ k_) ∧ some k_ ≠ (.slice b4 a9.length b3 : Value).ownBlock ∧ k_ ≠ b6 ∧ k_ ≠ b5 ∧ k_ ≠ a8)) ((Reps.c5 (show Kd.FK k75 _ _ (⟨2, (⟨b0, b1, b2, a6⟩ : S32)⟩ : S75) [.int .i64 2, .int .i64 b0, .int .i64 b1, .int .i64 b2, .slice b9 a6.length b8] from (k75_mkF _ _ (⟨2, (⟨b0, b1, b2, a6⟩ : S32)⟩ : S75) (Kd.V_reads' (a4.out)).2.1 (Kd.V_F (a4.out)))) (Reps.none _ _))) (fun k_ hk => ⟨(.inr (Nat.le_trans (below_size (zW HB.out)) hk)), Kd.fresh' (Kd.R_lt (zR a7.out)) k_ hk, Kd.freshB (zK a1.out) k_ hk, Kd.freshB (zK a5.out) k_ hk, Kd.freshB (zK a3.out) k_ hk⟩) ?_; intro G3 G4 h3 hb hg_ hnew_; clear hg_ hnew_; (first | rw [← m7.out] at h3 | (simp only [Int.reduceToNat] at h3; rw [← m7.out] at h3)); replace a4 := zA (Kd.V_elder' (zV a4.out) (Kd.N_base h3) hb); replace a7 := zr a7 hb; have r1 := zA (Kd.N_lower h3 (below_size (zW HB.out))); replace a1 := zb a1 hb; replace a5 := zb a5 hb; replace a3 := zb a3 hb; replace HB := zh HB hb; clear hb h3))
      go_ret
      exact ⟨_, zE, zNt (Kd.N_mono r1.out (fun _ hk => hk.1)), zW HB.out⟩
    ·have d8 := beq_eq_false_iff_ne.mpr h1
     have d9 := bne_iff_ne.mpr h1
     replace H := zI1 H
     rcases H with ⟨h4, H⟩ | ⟨h4, H⟩
     ·have i1 := beq_iff_eq.mpr h4
      have i2 := bne_eq_false_iff_eq.mpr h4
      clear h4
      obtain ⟨h5, e5⟩ : ∃ j_ : Int, (mn a2 2) = j_ := ⟨_, rfl⟩
      replace H : ((impl_nextOf.f b0 b1 0 ([] : List ByteArray) (h5)).bind fun i5 => ((impl_below.f i5.1 i5.2.1 i5.2.2.1 i5.2.2.2).bind fun i3 => (some (([(⟨4, (⟨b0, b1, b2, a6⟩ : S32)⟩ : S75), (⟨i3.1, (⟨i3.2.1, i3.2.2.1, i3.2.2.2.1, i3.2.2.2.2⟩ : S32)⟩ : S75)] : List (S75)))))) = some r := by first | (rw [e5] at H; exact H) | (simp only [e5] at H ⊢; exact H)
      (try rw [e5] at A4)
      (try (have hji109h : h5 ≤ 2 := by (rw [← e5]; unfold mn; (repeat' split) <;> omega)))
      (try (have hji109g : h5 ≤ 64 := by omega))
      have G5 : (if 2 < a2 then 2 else a2) = h5 := e5
      replace H := Option.bind_eq_some_iff.mp H
      obtain ⟨⟨j9, k0, k1, d2⟩, m9, H⟩ := H
      try dsimp only at H
      have r2 := zA m9
      clear m9
      replace H := Option.bind_eq_some_iff.mp H
      obtain ⟨⟨e6, e7, e8, e9, f0⟩, n0, H⟩ := H
      try dsimp only at H
      have r3 := zA n0
      clear n0
      obtain ⟨r4, k2⟩ : ∃ y_ : List (S75), y_ = (([(⟨4, (⟨b0, b1, b2, a6⟩ : S32)⟩ : S75), (⟨e6, (⟨e7, e8, e9, f0⟩ : S32)⟩ : S75)] : List (S75))) := ⟨_, rfl⟩
      replace H : (some r4) = some r := zY k2 H
      have n1 := zA k2
      clear k2
      obtain rfl := zm H
      (try simp only [c4, c6, c7, c8, d0, d1, d8, d9, i1, i2])
      try go_wp2
      generalize hW_ : ((((c9.setCell ⟨a8, 0, none⟩ (.int .i64 c1)).setCell ⟨a8, 1, none⟩ (.int .i64 c2)).setCell ⟨a8, 2, none⟩ (.int .i64 c3)).setCell ⟨a8, 3, none⟩ (.slice b4 a9.length b3)) = k3
      replace a4 : Aside0 (Kd.V Kd.string 9 k3 w.heap.size (fun k_ => (b7 k_ ∨ w.heap.size ≤ k_) ∧ some k_ ≠ (.slice b4 a9.length b3 : Value).ownBlock ∧ k_ ≠ b6 ∧ k_ ≠ b5 ∧ k_ ≠ a8) (.slice b9 a6.length b8) a6) := ⟨by subst hW_; exact zVt (Kd.V_mono (zv4 a4.out (fun _ hk => hk.2)) (fun _ hk => ⟨hk.1.1.1.1, ⟨hk.1.2, ⟨hk.1.1.1.2, ⟨hk.1.1.2, hk.2⟩⟩⟩⟩))⟩
      replace a7 : Aside0 (Kd.R Kd.string 9 k3 w.heap.size (fun k_ => (w.heap.size ≤ k_)) (.slice b4 a9.length b3) a9) := ⟨by subst hW_; exact zR (Kd.R_mono (zr4 a7.out a3.out) (fun _ hk => hk.1))⟩
      replace a1 := zA (zh1 hW_.symm (zK a1.out))
      replace a5 := zA (zh1 hW_.symm (zK a5.out))
      replace a3 := zA (zh1 hW_.symm (zk4 a3.out))
      replace HB := zA (zh2 hW_.symm (zW HB.out))
      clear hW_
      replace a4 := zA (Kd.V_drew a4.out)
      replace a7 := zA (Kd.R_drew a7.out)
      replace a1 := zA (blk_drew a1.out)
      replace a5 := zA (blk_drew a5.out)
      replace a3 := zA (blk_drew a3.out)
      replace HB := zA (below_drew1 HB.out)
      refine start_ (n := 12) (S := fun w' => w'.cell? ⟨b5, 0, none⟩ = some (.int .i64 4) ∧ w'.cell? ⟨b5, 1, none⟩ = some (.int .i64 b0) ∧ w'.cell? ⟨b5, 2, none⟩ = some (.int .i64 b1) ∧ w'.cell? ⟨b5, 3, none⟩ = some (.int .i64 b2) ∧ w'.cell? ⟨b5, 4, none⟩ = some (.slice b9 a6.length b8) ∧ w'.cell? ⟨b6, 0, none⟩ = some (.int .i64 b0) ∧ w'.cell? ⟨b6, 1, none⟩ = some (.int .i64 b1) ∧ w'.cell? ⟨b6, 2, none⟩ = some (.int .i64 b2) ∧ w'.cell? ⟨b6, 3, none⟩ = some (.slice b9 a6.length b8)) (ds := []) (Array.replicate 12 false) (by kernel_rfl) rfl rfl zO fun hHeld => ?_; refine with_tabW impl_wordCmps.tab18 impl_wordCmps.bits18 (fun HT_ HW_ => ?_)
      generalize k3.drew = G6 at a4 a7 a1 a5 a3 HB hHeld ⊢
      refine zp 1 48 ?_
      refine zp 3 50 ?_
      refine zp 6 53 ?_
      refine zp 7 54 ?_
      refine zt 0 47 ?_
      refine zt 2 49 ?_
      refine zt 4 51 ?_
      refine zp 5 52 ?_
      refine zo 8 (some 55) fun K hK => ?_
      refine goes_ Tryz.func191 (by kernel_rfl) rfl #[.agg #[.int .i64 b0, .int .i64 b1, .int .i64 0, .slice none 0 0], .int .i64 h5] (by rfl) rfl rfl (by (try simp only [List.map_toArray, List.map_cons, List.map_nil]); first | done | (simp only [e5]; rfl) | rfl | (simp only [List.length_drop, List.length_take]; rfl)) ?_
      refine (impl_nextOf.calls b0 b1 0 _ _ ([] : List ByteArray) h5 j9 k0 k1 d2 _ ?s1 ?s2 r2.out).mono ?_
      (case s1 => exact Kd.C_nil _ _)
      (case s2 => exact Nat.le_refl _)
      rintro e G7 ⟨G8, rfl, c0, hb⟩
      refine ⟨_, rfl, ?_⟩
      replace a4 := zA (Kd.V_elder' (zV a4.out) (Kd.R_base c0) hb)
      have d3 := zA (Kd.R_lower (Kd.R_new' (Kd.R_newM (M := fun k_ => (w.heap.size ≤ k_)) c0 (below_size (zW HB.out)) (fun k_ h_ => h_)) (Kd.R_lt (zR a7.out))) (below_size (zW HB.out)))
      replace a7 := zA (Kd.R_elder' (zR a7.out) (Kd.R_base c0) hb)
      replace a1 := zb a1 hb
      replace a5 := zb a5 hb
      replace a3 := zb a3 hb
      replace HB := zh HB hb
      (try clear hb c0)
      obtain ⟨f1, f2, n2⟩ := Kd.R_slice d3.out
      (first | subst n2 | (injection n2 with f1_ f2_ f3_; have d4 := f1_.symm; have d5 := f3_.symm; clear f1_ f2_ f3_; subst d4; subst d5))
      refine hK.out _ _ zO fun hHeld => ?_
      clear hK K
      refine zn ?_
      refine zo 9 (some 56) fun K hK => ?_
      refine goes_ Tryz.func192 (by kernel_rfl) rfl #[.agg #[.int .i64 j9, .int .i64 k0, .int .i64 k1, .slice f1 d2.length f2]] (by rfl) rfl rfl zM ?_
      with_reducible refine (impl_below.calls j9 k0 k1 _ _ d2 e6 e7 e8 e9 f0 _ ?s1 ?s2 r3.out).mono ?_
      (case s1 => repeat (first | exact (Kd.R_reads' d3.out).2.2 | (with_reducible refine Kd.C_alloc ?_ _) | (with_reducible refine Kd.C_drewN ?_ _) | (with_reducible refine Kd.C_drew ?_)))
      (case s2 => exact (Kd.R_reads' d3.out).2.1)
      rintro e r5 ⟨G9, rfl, c0, hb⟩
      refine ⟨_, rfl, ?_⟩
      replace a4 := zA (Kd.V_elder' (zV a4.out) (Kd.R_base c0) hb)
      have i6 := zA (Kd.R_lower (Kd.R_new' (Kd.R_new' (Kd.R_newM (M := fun k_ => (w.heap.size ≤ k_)) c0 (below_size (zW HB.out)) (fun k_ h_ => h_)) (Kd.R_lt (zR a7.out))) (Kd.R_lt (zR d3.out))) (below_size (zW HB.out)))
      replace a7 := zA (Kd.R_elder' (zR a7.out) (Kd.R_base c0) hb)
      replace d3 := zA (Kd.R_elder' (zR d3.out) (Kd.R_base c0) hb)
      replace a1 := zb a1 hb
      replace a5 := zb a5 hb
      replace a3 := zb a3 hb
      replace HB := zh HB hb
      (try clear hb c0)
      obtain ⟨n3, n4, n5⟩ := Kd.R_slice i6.out
      (first | subst n5 | (injection n5 with f1_ f2_ f3_; have d4 := f1_.symm; have d5 := f3_.symm; clear f1_ f2_ f3_; subst d4; subst d5))
      refine hK.out _ _ zO fun hHeld => ?_
      clear hK K
      refine zn ?_
      refine zo 10 (some 57) fun K hK => ?_
      refine Kd.N_lit_step k75 _ 75 ?hg (N' := 57) ?hd (xs := ([(⟨4, (⟨b0, b1, b2, a6⟩ : S32)⟩ : S75), (⟨e6, (⟨e7, e8, e9, f0⟩ : S32)⟩ : S75)] : List (S75))) (inner := [.int .i64 4, .int .i64 b0, .int .i64 b1, .int .i64 b2, .slice b9 a6.length b8, .int .i64 e6, .int .i64 e7, .int .i64 e8, .int .i64 e9, .slice n3 f0.length n4]) (ok := (fun k_ => (b7 k_ ∨ w.heap.size ≤ k_) ∧ some k_ ≠ (.slice b4 a9.length b3 : Value).ownBlock ∧ some k_ ≠ (.slice f1 d2.length f2 : Value).ownBlock ∧ k_ ≠ b6 ∧ k_ ≠ b5 ∧ k_ ≠ a8)) ?hr ?hp (fun _ hk => hk) ((show ∀ k_, r5.heap.size ≤ k_ → (fun k_ => (b7 k_ ∨ w.heap.size ≤ k_) ∧ some k_ ≠ (.slice b4 a9.length b3 : Value).ownBlock ∧ some k_ ≠ (.slice f1 d2.length f2 : Value).ownBlock ∧ k_ ≠ b6 ∧ k_ ≠ b5 ∧ k_ ≠ a8) k_ from fun k_ hk => ⟨(.inr (Nat.le_trans (below_size (zW HB.out)) hk)), Kd.fresh' (Kd.R_lt (zR a7.out)) k_ hk, Kd.fresh' (Kd.R_lt (zR d3.out)) k_ hk, Kd.freshB (zK a1.out) k_ hk, Kd.freshB (zK a5.out) k_ hk, Kd.freshB (zK a3.out) k_ hk⟩) _ (Nat.le_refl _)) (Below.refl _ _) (Nat.le_refl _) (by simp) ?_; (case hd => rfl); (case hg => rfl); (case hr => first | (go_simp; done) | (go_simp; rfl)); (case hp => exact (Reps.c5 (show Kd.FK k75 _ _ (⟨4, (⟨b0, b1, b2, a6⟩ : S32)⟩ : S75) [.int .i64 4, .int .i64 b0, .int .i64 b1, .int .i64 b2, .slice b9 a6.length b8] from (k75_mkF _ _ (⟨4, (⟨b0, b1, b2, a6⟩ : S32)⟩ : S75) (Kd.V_reads' (Kd.V_mono (ok' := (fun k_ => (b7 k_ ∨ w.heap.size ≤ k_) ∧ some k_ ≠ (.slice b4 a9.length b3 : Value).ownBlock ∧ some k_ ≠ (.slice f1 d2.length f2 : Value).ownBlock ∧ k_ ≠ b6 ∧ k_ ≠ b5 ∧ k_ ≠ a8)) (a4.out) (fun k_ hk => ⟨hk.1.1.1, ⟨hk.1.1.2.1, ⟨hk.1.2, ⟨hk.1.1.2.2.1, ⟨hk.1.1.2.2.2.1, hk.1.1.2.2.2.2⟩⟩⟩⟩⟩))).2.1 (Kd.V_F (Kd.V_mono (ok' := (fun k_ => (b7 k_ ∨ w.heap.size ≤ k_) ∧ some k_ ≠ (.slice b4 a9.length b3 : Value).ownBlock ∧ some k_ ≠ (.slice f1 d2.length f2 : Value).ownBlock ∧ k_ ≠ b6 ∧ k_ ≠ b5 ∧ k_ ≠ a8)) (a4.out) (fun k_ hk => ⟨hk.1.1.1, ⟨hk.1.1.2.1, ⟨hk.1.2, ⟨hk.1.1.2.2.1, ⟨hk.1.1.2.2.2.1, hk.1.1.2.2.2.2⟩⟩⟩⟩⟩))))) (Reps.c5 (show Kd.FK k75 _ _ (⟨e6, (⟨e7, e8, e9, f0⟩ : S32)⟩ : S75) [.int .i64 e6, .int .i64 e7, .int .i64 e8, .int .i64 e9, .slice n3 f0.length n4] from (k75_mkF _ _ (⟨e6, (⟨e7, e8, e9, f0⟩ : S32)⟩ : S75) (Kd.R_reads' (Kd.R_mono (ok' := (fun k_ => (b7 k_ ∨ w.heap.size ≤ k_) ∧ some k_ ≠ (.slice b4 a9.length b3 : Value).ownBlock ∧ some k_ ≠ (.slice f1 d2.length f2 : Value).ownBlock ∧ k_ ≠ b6 ∧ k_ ≠ b5 ∧ k_ ≠ a8)) (Kd.R_types (Kd.R_types (Kd.R_types (i6.out) a1.out (by decide)) a5.out (by decide)) a3.out (by decide)) (fun k_ hk => ⟨(.inr (hk.1.1.1.1.1.1)), ⟨hk.1.1.1.1.2, ⟨hk.1.1.1.2, ⟨hk.1.1.2, ⟨hk.1.2, hk.2⟩⟩⟩⟩⟩))).2.1 (Kd.R_F (Kd.R_mono (ok' := (fun k_ => (b7 k_ ∨ w.heap.size ≤ k_) ∧ some k_ ≠ (.slice b4 a9.length b3 : Value).ownBlock ∧ some k_ ≠ (.slice f1 d2.length f2 : Value).ownBlock ∧ k_ ≠ b6 ∧ k_ ≠ b5 ∧ k_ ≠ a8)) (Kd.R_types (Kd.R_types (Kd.R_types (i6.out) a1.out (by decide)) a5.out (by decide)) a3.out (by decide)) (fun k_ hk => ⟨(.inr (hk.1.1.1.1.1.1)), ⟨hk.1.1.1.1.2, ⟨hk.1.1.1.2, ⟨hk.1.1.2, ⟨hk.1.2, hk.2⟩⟩⟩⟩⟩))))) (Reps.none _ _))))
      intro I0 I1 h6 hb hg_ hnew_
      clear hg_ hnew_
      (first | rw [← n1.out] at h6 | (simp only [Int.reduceToNat] at h6; rw [← n1.out] at h6))
      replace a4 := zA (Kd.V_elder' (zV a4.out) (Kd.N_base h6) hb)
      replace a7 := zr a7 hb
      replace d3 := zr d3 hb
      have r6 := zA (Kd.N_lower h6 (below_size (zW HB.out)))
      replace a1 := zb a1 hb
      replace a5 := zb a5 hb
      replace a3 := zb a3 hb
      replace HB := zh HB hb
      clear i6
      clear hb h6
      refine hK.out _ _ zO fun hHeld => ?_
      clear hK K
      refine zn ?_
      refine zp 11 6 ?_
      refine done_ (done_of HT_.out (by kernel_rfl)) ?_
      try go_wp2
      go_ret
      exact ⟨_, by first | rfl | (simp [errW_none, errW_some] <;> rfl) | (simp only [← e5]; first | rfl | (simp [errW_none, errW_some] <;> rfl)) | (simp [*, errW_none, errW_some] <;> rfl), zNt (Kd.N_mono r6.out (fun _ hk => hk.1)), zW HB.out⟩
     ·have i1 := beq_eq_false_iff_ne.mpr h4
      have i2 := bne_iff_ne.mpr h4
      replace H := zI1 H
      rcases H with ⟨h7, H⟩ | ⟨h7, H⟩
      ·have i7 := beq_iff_eq.mpr h7
       have i8 := bne_eq_false_iff_eq.mpr h7
       clear h7
       replace H := Option.bind_eq_some_iff.mp H
       obtain ⟨⟨k4, k5, k6, d6⟩, n6, H⟩ := H
       try dsimp only at H
       have r7 := zA n6
       clear n6
       replace H := Option.bind_eq_some_iff.mp H
       obtain ⟨⟨f3, f4, f5, f6, f7⟩, n7, H⟩ := H
       try dsimp only at H
       have r8 := zA n7
       clear n7
       obtain ⟨r9, k7⟩ : ∃ y_ : List (S75), y_ = (([(⟨4, (⟨b0, b1, b2, a6⟩ : S32)⟩ : S75), (⟨f3, (⟨f4, f5, f6, f7⟩ : S32)⟩ : S75)] : List (S75))) := ⟨_, rfl⟩
       replace H : (some r9) = some r := zY k7 H
       have n8 := zA k7
       clear k7
       obtain rfl := zm H
       (try simp only [c4, c6, c7, c8, d0, d1, d8, d9, i1, i2, i7, i8])
       try go_wp2
       generalize hW_ : ((((c9.setCell ⟨a8, 0, none⟩ (.int .i64 c1)).setCell ⟨a8, 1, none⟩ (.int .i64 c2)).setCell ⟨a8, 2, none⟩ (.int .i64 c3)).setCell ⟨a8, 3, none⟩ (.slice b4 a9.length b3)) = k8
       replace a4 : Aside0 (Kd.V Kd.string 9 k8 w.heap.size (fun k_ => (b7 k_ ∨ w.heap.size ≤ k_) ∧ some k_ ≠ (.slice b4 a9.length b3 : Value).ownBlock ∧ k_ ≠ b6 ∧ k_ ≠ b5 ∧ k_ ≠ a8) (.slice b9 a6.length b8) a6) := ⟨by subst hW_; exact zVt (Kd.V_mono (zv4 a4.out (fun _ hk => hk.2)) (fun _ hk => ⟨hk.1.1.1.1, ⟨hk.1.2, ⟨hk.1.1.1.2, ⟨hk.1.1.2, hk.2⟩⟩⟩⟩))⟩
       replace a7 : Aside0 (Kd.R Kd.string 9 k8 w.heap.size (fun k_ => (w.heap.size ≤ k_)) (.slice b4 a9.length b3) a9) := ⟨by subst hW_; exact zR (Kd.R_mono (zr4 a7.out a3.out) (fun _ hk => hk.1))⟩
       replace a1 := zA (zh1 hW_.symm (zK a1.out))
       replace a5 := zA (zh1 hW_.symm (zK a5.out))
       replace a3 := zA (zh1 hW_.symm (zk4 a3.out))
       replace HB := zA (zh2 hW_.symm (zW HB.out))
       clear hW_
       replace a4 := zA (Kd.V_drew a4.out)
       replace a7 := zA (Kd.R_drew a7.out)
       replace a1 := zA (blk_drew a1.out)
       replace a5 := zA (blk_drew a5.out)
       replace a3 := zA (blk_drew a3.out)
       replace HB := zA (below_drew1 HB.out)
       refine start_ (n := 7) (S := fun w' => w'.cell? ⟨b5, 0, none⟩ = some (.int .i64 4) ∧ w'.cell? ⟨b5, 1, none⟩ = some (.int .i64 b0) ∧ w'.cell? ⟨b5, 2, none⟩ = some (.int .i64 b1) ∧ w'.cell? ⟨b5, 3, none⟩ = some (.int .i64 b2) ∧ w'.cell? ⟨b5, 4, none⟩ = some (.slice b9 a6.length b8) ∧ w'.cell? ⟨b6, 0, none⟩ = some (.int .i64 b0) ∧ w'.cell? ⟨b6, 1, none⟩ = some (.int .i64 b1) ∧ w'.cell? ⟨b6, 2, none⟩ = some (.int .i64 b2) ∧ w'.cell? ⟨b6, 3, none⟩ = some (.slice b9 a6.length b8)) (ds := []) (Array.replicate 7 false) (by kernel_rfl) rfl rfl zO fun hHeld => ?_
       generalize k8.drew = I2 at a4 a7 a1 a5 a3 HB hHeld ⊢
       refine zp 2 62 ?_
       refine zt 0 60 ?_
       refine zt 1 61 ?_
       refine zo 3 (some 63) fun K hK => ?_
       refine goes_ Tryz.func193 (by kernel_rfl) rfl #[.agg #[.int .i64 b0, .int .i64 b1, .int .i64 b2, .slice b9 a6.length b8], .int .i64 a2] (by rfl) rfl rfl zM ?_
       with_reducible refine (impl_caret.calls k b0 b1 b2 _ _ a6 a2 k4 k5 k6 d6 _ ?s1 ?s2 r7.out).mono ?_
       (case s1 => repeat (first | exact (Kd.V_reads' a4.out).2.2 | (with_reducible refine Kd.C_alloc ?_ _) | (with_reducible refine Kd.C_drewN ?_ _) | (with_reducible refine Kd.C_drew ?_)))
       (case s2 => exact (Kd.V_reads' a4.out).2.1)
       rintro e I3 ⟨I4, rfl, c0, hb⟩
       refine ⟨_, rfl, ?_⟩
       replace a4 := zA (Kd.V_elder' (zV a4.out) (Kd.R_base c0) hb)
       have d7 := zA (Kd.R_lower (Kd.R_new' (Kd.R_newM (M := fun k_ => (w.heap.size ≤ k_)) c0 (below_size (zW HB.out)) (fun k_ h_ => h_)) (Kd.R_lt (zR a7.out))) (below_size (zW HB.out)))
       replace a7 := zA (Kd.R_elder' (zR a7.out) (Kd.R_base c0) hb)
       replace a1 := zb a1 hb
       replace a5 := zb a5 hb
       replace a3 := zb a3 hb
       replace HB := zh HB hb
       (try clear hb c0)
       obtain ⟨f8, f9, n9⟩ := Kd.R_slice d7.out
       (first | subst n9 | (injection n9 with f1_ f2_ f3_; have d4 := f1_.symm; have d5 := f3_.symm; clear f1_ f2_ f3_; subst d4; subst d5))
       refine hK.out _ _ zO fun hHeld => ?_
       clear hK K
       refine zn ?_
       refine zo 4 (some 64) fun K hK => ?_
       refine goes_ Tryz.func192 (by kernel_rfl) rfl #[.agg #[.int .i64 k4, .int .i64 k5, .int .i64 k6, .slice f8 d6.length f9]] (by rfl) rfl rfl zM ?_
       with_reducible refine (impl_below.calls k4 k5 k6 _ _ d6 f3 f4 f5 f6 f7 _ ?s1 ?s2 r8.out).mono ?_
       (case s1 => repeat (first | exact (Kd.R_reads' d7.out).2.2 | (with_reducible refine Kd.C_alloc ?_ _) | (with_reducible refine Kd.C_drewN ?_ _) | (with_reducible refine Kd.C_drew ?_)))
       (case s2 => exact (Kd.R_reads' d7.out).2.1)
       rintro e t0 ⟨I5, rfl, c0, hb⟩
       refine ⟨_, rfl, ?_⟩
       replace a4 := zA (Kd.V_elder' (zV a4.out) (Kd.R_base c0) hb)
       have i9 := zA (Kd.R_lower (Kd.R_new' (Kd.R_new' (Kd.R_newM (M := fun k_ => (w.heap.size ≤ k_)) c0 (below_size (zW HB.out)) (fun k_ h_ => h_)) (Kd.R_lt (zR a7.out))) (Kd.R_lt (zR d7.out))) (below_size (zW HB.out)))
       replace a7 := zA (Kd.R_elder' (zR a7.out) (Kd.R_base c0) hb)
       replace d7 := zA (Kd.R_elder' (zR d7.out) (Kd.R_base c0) hb)
       replace a1 := zb a1 hb
       replace a5 := zb a5 hb
       replace a3 := zb a3 hb
       replace HB := zh HB hb
       (try clear hb c0)
       obtain ⟨o0, o1, o2⟩ := Kd.R_slice i9.out
       (first | subst o2 | (injection o2 with f1_ f2_ f3_; have d4 := f1_.symm; have d5 := f3_.symm; clear f1_ f2_ f3_; subst d4; subst d5))
       refine hK.out _ _ zO fun hHeld => ?_
       clear hK K
       refine zn ?_
       refine zo 5 (some 65) fun K hK => ?_
       refine Kd.N_lit_step k75 _ 75 ?hg (N' := 65) ?hd (xs := ([(⟨4, (⟨b0, b1, b2, a6⟩ : S32)⟩ : S75), (⟨f3, (⟨f4, f5, f6, f7⟩ : S32)⟩ : S75)] : List (S75))) (inner := [.int .i64 4, .int .i64 b0, .int .i64 b1, .int .i64 b2, .slice b9 a6.length b8, .int .i64 f3, .int .i64 f4, .int .i64 f5, .int .i64 f6, .slice o0 f7.length o1]) (ok := (fun k_ => (b7 k_ ∨ w.heap.size ≤ k_) ∧ some k_ ≠ (.slice b4 a9.length b3 : Value).ownBlock ∧ some k_ ≠ (.slice f8 d6.length f9 : Value).ownBlock ∧ k_ ≠ b6 ∧ k_ ≠ b5 ∧ k_ ≠ a8)) ?hr ?hp (fun _ hk => hk) ((show ∀ k_, t0.heap.size ≤ k_ → (fun k_ => (b7 k_ ∨ w.heap.size ≤ k_) ∧ some k_ ≠ (.slice b4 a9.length b3 : Value).ownBlock ∧ some k_ ≠ (.slice f8 d6.length f9 : Value).ownBlock ∧ k_ ≠ b6 ∧ k_ ≠ b5 ∧ k_ ≠ a8) k_ from fun k_ hk => ⟨(.inr (Nat.le_trans (below_size (zW HB.out)) hk)), Kd.fresh' (Kd.R_lt (zR a7.out)) k_ hk, Kd.fresh' (Kd.R_lt (zR d7.out)) k_ hk, Kd.freshB (zK a1.out) k_ hk, Kd.freshB (zK a5.out) k_ hk, Kd.freshB (zK a3.out) k_ hk⟩) _ (Nat.le_refl _)) (Below.refl _ _) (Nat.le_refl _) (by simp) ?_; (case hd => rfl); (case hg => rfl); (case hr => first | (go_simp; done) | (go_simp; rfl)); (case hp => exact (Reps.c5 (show Kd.FK k75 _ _ (⟨4, (⟨b0, b1, b2, a6⟩ : S32)⟩ : S75) [.int .i64 4, .int .i64 b0, .int .i64 b1, .int .i64 b2, .slice b9 a6.length b8] from (k75_mkF _ _ (⟨4, (⟨b0, b1, b2, a6⟩ : S32)⟩ : S75) (Kd.V_reads' (Kd.V_mono (ok' := (fun k_ => (b7 k_ ∨ w.heap.size ≤ k_) ∧ some k_ ≠ (.slice b4 a9.length b3 : Value).ownBlock ∧ some k_ ≠ (.slice f8 d6.length f9 : Value).ownBlock ∧ k_ ≠ b6 ∧ k_ ≠ b5 ∧ k_ ≠ a8)) (a4.out) (fun k_ hk => ⟨hk.1.1.1, ⟨hk.1.1.2.1, ⟨hk.1.2, ⟨hk.1.1.2.2.1, ⟨hk.1.1.2.2.2.1, hk.1.1.2.2.2.2⟩⟩⟩⟩⟩))).2.1 (Kd.V_F (Kd.V_mono (ok' := (fun k_ => (b7 k_ ∨ w.heap.size ≤ k_) ∧ some k_ ≠ (.slice b4 a9.length b3 : Value).ownBlock ∧ some k_ ≠ (.slice f8 d6.length f9 : Value).ownBlock ∧ k_ ≠ b6 ∧ k_ ≠ b5 ∧ k_ ≠ a8)) (a4.out) (fun k_ hk => ⟨hk.1.1.1, ⟨hk.1.1.2.1, ⟨hk.1.2, ⟨hk.1.1.2.2.1, ⟨hk.1.1.2.2.2.1, hk.1.1.2.2.2.2⟩⟩⟩⟩⟩))))) (Reps.c5 (show Kd.FK k75 _ _ (⟨f3, (⟨f4, f5, f6, f7⟩ : S32)⟩ : S75) [.int .i64 f3, .int .i64 f4, .int .i64 f5, .int .i64 f6, .slice o0 f7.length o1] from (k75_mkF _ _ (⟨f3, (⟨f4, f5, f6, f7⟩ : S32)⟩ : S75) (Kd.R_reads' (Kd.R_mono (ok' := (fun k_ => (b7 k_ ∨ w.heap.size ≤ k_) ∧ some k_ ≠ (.slice b4 a9.length b3 : Value).ownBlock ∧ some k_ ≠ (.slice f8 d6.length f9 : Value).ownBlock ∧ k_ ≠ b6 ∧ k_ ≠ b5 ∧ k_ ≠ a8)) (Kd.R_types (Kd.R_types (Kd.R_types (i9.out) a1.out (by decide)) a5.out (by decide)) a3.out (by decide)) (fun k_ hk => ⟨(.inr (hk.1.1.1.1.1.1)), ⟨hk.1.1.1.1.2, ⟨hk.1.1.1.2, ⟨hk.1.1.2, ⟨hk.1.2, hk.2⟩⟩⟩⟩⟩))).2.1 (Kd.R_F (Kd.R_mono (ok' := (fun k_ => (b7 k_ ∨ w.heap.size ≤ k_) ∧ some k_ ≠ (.slice b4 a9.length b3 : Value).ownBlock ∧ some k_ ≠ (.slice f8 d6.length f9 : Value).ownBlock ∧ k_ ≠ b6 ∧ k_ ≠ b5 ∧ k_ ≠ a8)) (Kd.R_types (Kd.R_types (Kd.R_types (i9.out) a1.out (by decide)) a5.out (by decide)) a3.out (by decide)) (fun k_ hk => ⟨(.inr (hk.1.1.1.1.1.1)), ⟨hk.1.1.1.1.2, ⟨hk.1.1.1.2, ⟨hk.1.1.2, ⟨hk.1.2, hk.2⟩⟩⟩⟩⟩))))) (Reps.none _ _))))
       intro I6 I7 h8 hb hg_ hnew_
       clear hg_ hnew_
       (first | rw [← n8.out] at h8 | (simp only [Int.reduceToNat] at h8; rw [← n8.out] at h8))
       replace a4 := zA (Kd.V_elder' (zV a4.out) (Kd.N_base h8) hb)
       replace a7 := zr a7 hb
       replace d7 := zr d7 hb
       have t1 := zA (Kd.N_lower h8 (below_size (zW HB.out)))
       replace a1 := zb a1 hb
       replace a5 := zb a5 hb
       replace a3 := zb a3 hb
       replace HB := zh HB hb
       clear i9
       clear hb h8
       refine hK.out _ _ zO fun hHeld => ?_
       clear hK K
       refine zn ?_
       refine zp 6 6 ?_
       refine done_ (by kernel_rfl) ?_
       try go_wp2
       go_ret
       exact ⟨_, zE, zNt (Kd.N_mono t1.out (fun _ hk => hk.1)), zW HB.out⟩
      ·have i7 := beq_eq_false_iff_ne.mpr h7
       have i8 := bne_iff_ne.mpr h7
       replace H := zI0 H
       rcases H with ⟨k9, H⟩ | ⟨k9, H⟩
       ·replace H := Option.bind_eq_some_iff.mp H
        obtain ⟨⟨g0, g1, g2, g3, g4⟩, o3, H⟩ := H
        try dsimp only at H
        have t2 := zA o3
        clear o3
        obtain ⟨t3, l0⟩ : ∃ y_ : List (S75), y_ = (([(⟨4, (⟨b0, b1, b2, a6⟩ : S32)⟩ : S75), (⟨g0, (⟨g1, g2, g3, g4⟩ : S32)⟩ : S75)] : List (S75))) := ⟨_, rfl⟩
        replace H : (some t3) = some r := zY l0 H
        have o4 := zA l0
        clear l0
        obtain rfl := zm H
        (try simp only [c4, c6, c7, c8, d0, d1, d8, d9, i1, i2, i7, i8, k9])
        try go_wp2
        generalize hW_ : ((((c9.setCell ⟨a8, 0, none⟩ (.int .i64 c1)).setCell ⟨a8, 1, none⟩ (.int .i64 c2)).setCell ⟨a8, 2, none⟩ (.int .i64 c3)).setCell ⟨a8, 3, none⟩ (.slice b4 a9.length b3)) = l1
        replace a4 : Aside0 (Kd.V Kd.string 9 l1 w.heap.size (fun k_ => (b7 k_ ∨ w.heap.size ≤ k_) ∧ some k_ ≠ (.slice b4 a9.length b3 : Value).ownBlock ∧ k_ ≠ b6 ∧ k_ ≠ b5 ∧ k_ ≠ a8) (.slice b9 a6.length b8) a6) := ⟨by subst hW_; exact zVt (Kd.V_mono (zv4 a4.out (fun _ hk => hk.2)) (fun _ hk => ⟨hk.1.1.1.1, ⟨hk.1.2, ⟨hk.1.1.1.2, ⟨hk.1.1.2, hk.2⟩⟩⟩⟩))⟩
        replace a7 : Aside0 (Kd.R Kd.string 9 l1 w.heap.size (fun k_ => (w.heap.size ≤ k_)) (.slice b4 a9.length b3) a9) := ⟨by subst hW_; exact zR (Kd.R_mono (zr4 a7.out a3.out) (fun _ hk => hk.1))⟩
        replace a1 := zA (zh1 hW_.symm (zK a1.out))
        replace a5 := zA (zh1 hW_.symm (zK a5.out))
        replace a3 := zA (zh1 hW_.symm (zk4 a3.out))
        replace HB := zA (zh2 hW_.symm (zW HB.out))
        clear hW_
        replace a4 := zA (Kd.V_drew a4.out)
        replace a7 := zA (Kd.R_drew a7.out)
        replace a1 := zA (blk_drew a1.out)
        replace a5 := zA (blk_drew a5.out)
        replace a3 := zA (blk_drew a3.out)
        replace HB := zA (below_drew1 HB.out)
        refine start_ (n := 5) (S := fun w' => w'.cell? ⟨b5, 0, none⟩ = some (.int .i64 4) ∧ w'.cell? ⟨b5, 1, none⟩ = some (.int .i64 b0) ∧ w'.cell? ⟨b5, 2, none⟩ = some (.int .i64 b1) ∧ w'.cell? ⟨b5, 3, none⟩ = some (.int .i64 b2) ∧ w'.cell? ⟨b5, 4, none⟩ = some (.slice b9 a6.length b8) ∧ w'.cell? ⟨a8, 0, none⟩ = some (.int .i64 c1) ∧ w'.cell? ⟨a8, 1, none⟩ = some (.int .i64 c2) ∧ w'.cell? ⟨a8, 2, none⟩ = some (.int .i64 c3) ∧ w'.cell? ⟨a8, 3, none⟩ = some (.slice b4 a9.length b3)) (ds := []) (Array.replicate 5 false) (by kernel_rfl) rfl rfl zO fun hHeld => ?_
        generalize l1.drew = I8 at a4 a7 a1 a5 a3 HB hHeld ⊢
        refine zt 0 67 ?_
        refine zt 1 68 ?_
        refine zo 2 (some 69) fun K hK => ?_
        refine goes_ Tryz.func192 (by kernel_rfl) rfl #[.agg #[.int .i64 c1, .int .i64 c2, .int .i64 c3, .slice b4 a9.length b3]] (by rfl) rfl rfl zM ?_
        with_reducible refine (impl_below.calls c1 c2 c3 _ _ a9 g0 g1 g2 g3 g4 _ ?s1 ?s2 t2.out).mono ?_
        (case s1 => repeat (first | exact (Kd.R_reads' a7.out).2.2 | (with_reducible refine Kd.C_alloc ?_ _) | (with_reducible refine Kd.C_drewN ?_ _) | (with_reducible refine Kd.C_drew ?_)))
        (case s2 => exact (Kd.R_reads' a7.out).2.1)
        rintro e t4 ⟨I9, rfl, c0, hb⟩
        refine ⟨_, rfl, ?_⟩
        replace a4 := zA (Kd.V_elder' (zV a4.out) (Kd.R_base c0) hb)
        have j0 := zA (Kd.R_lower (Kd.R_new' (Kd.R_newM (M := fun k_ => (w.heap.size ≤ k_)) c0 (below_size (zW HB.out)) (fun k_ h_ => h_)) (Kd.R_lt (zR a7.out))) (below_size (zW HB.out)))
        replace a7 := zA (Kd.R_elder' (zR a7.out) (Kd.R_base c0) hb)
        replace a1 := zb a1 hb
        replace a5 := zb a5 hb
        replace a3 := zb a3 hb
        replace HB := zh HB hb
        (try clear hb c0)
        obtain ⟨o5, o6, o7⟩ := Kd.R_slice j0.out
        (first | subst o7 | (injection o7 with f1_ f2_ f3_; have d4 := f1_.symm; have d5 := f3_.symm; clear f1_ f2_ f3_; subst d4; subst d5))
        refine hK.out _ _ zO fun hHeld => ?_
        clear hK K
        refine zn ?_
        refine zo 3 (some 70) fun K hK => ?_
        refine Kd.N_lit_step k75 _ 75 ?hg (N' := 70) ?hd (xs := ([(⟨4, (⟨b0, b1, b2, a6⟩ : S32)⟩ : S75), (⟨g0, (⟨g1, g2, g3, g4⟩ : S32)⟩ : S75)] : List (S75))) (inner := [.int .i64 4, .int .i64 b0, .int .i64 b1, .int .i64 b2, .slice b9 a6.length b8, .int .i64 g0, .int .i64 g1, .int .i64 g2, .int .i64 g3, .slice o5 g4.length o6]) (ok := (fun k_ => (b7 k_ ∨ w.heap.size ≤ k_) ∧ some k_ ≠ (.slice b4 a9.length b3 : Value).ownBlock ∧ k_ ≠ b6 ∧ k_ ≠ b5 ∧ k_ ≠ a8)) ?hr ?hp (fun _ hk => hk) ((show ∀ k_, t4.heap.size ≤ k_ → (fun k_ => (b7 k_ ∨ w.heap.size ≤ k_) ∧ some k_ ≠ (.slice b4 a9.length b3 : Value).ownBlock ∧ k_ ≠ b6 ∧ k_ ≠ b5 ∧ k_ ≠ a8) k_ from fun k_ hk => ⟨(.inr (Nat.le_trans (below_size (zW HB.out)) hk)), Kd.fresh' (Kd.R_lt (zR a7.out)) k_ hk, Kd.freshB (zK a1.out) k_ hk, Kd.freshB (zK a5.out) k_ hk, Kd.freshB (zK a3.out) k_ hk⟩) _ (Nat.le_refl _)) (Below.refl _ _) (Nat.le_refl _) (by simp) ?_; (case hd => rfl); (case hg => rfl); (case hr => first | (go_simp; done) | (go_simp; rfl)); (case hp => exact (Reps.c5 (show Kd.FK k75 _ _ (⟨4, (⟨b0, b1, b2, a6⟩ : S32)⟩ : S75) [.int .i64 4, .int .i64 b0, .int .i64 b1, .int .i64 b2, .slice b9 a6.length b8] from (k75_mkF _ _ (⟨4, (⟨b0, b1, b2, a6⟩ : S32)⟩ : S75) (Kd.V_reads' (Kd.V_mono (ok' := (fun k_ => (b7 k_ ∨ w.heap.size ≤ k_) ∧ some k_ ≠ (.slice b4 a9.length b3 : Value).ownBlock ∧ k_ ≠ b6 ∧ k_ ≠ b5 ∧ k_ ≠ a8)) (a4.out) (fun k_ hk => ⟨hk.1.1, ⟨hk.1.2.1, ⟨hk.1.2.2.1, ⟨hk.1.2.2.2.1, hk.1.2.2.2.2⟩⟩⟩⟩))).2.1 (Kd.V_F (Kd.V_mono (ok' := (fun k_ => (b7 k_ ∨ w.heap.size ≤ k_) ∧ some k_ ≠ (.slice b4 a9.length b3 : Value).ownBlock ∧ k_ ≠ b6 ∧ k_ ≠ b5 ∧ k_ ≠ a8)) (a4.out) (fun k_ hk => ⟨hk.1.1, ⟨hk.1.2.1, ⟨hk.1.2.2.1, ⟨hk.1.2.2.2.1, hk.1.2.2.2.2⟩⟩⟩⟩))))) (Reps.c5 (show Kd.FK k75 _ _ (⟨g0, (⟨g1, g2, g3, g4⟩ : S32)⟩ : S75) [.int .i64 g0, .int .i64 g1, .int .i64 g2, .int .i64 g3, .slice o5 g4.length o6] from (k75_mkF _ _ (⟨g0, (⟨g1, g2, g3, g4⟩ : S32)⟩ : S75) (Kd.R_reads' (Kd.R_mono (ok' := (fun k_ => (b7 k_ ∨ w.heap.size ≤ k_) ∧ some k_ ≠ (.slice b4 a9.length b3 : Value).ownBlock ∧ k_ ≠ b6 ∧ k_ ≠ b5 ∧ k_ ≠ a8)) (Kd.R_types (Kd.R_types (Kd.R_types (j0.out) a1.out (by decide)) a5.out (by decide)) a3.out (by decide)) (fun k_ hk => ⟨(.inr (hk.1.1.1.1.1)), ⟨hk.1.1.1.2, ⟨hk.1.1.2, ⟨hk.1.2, hk.2⟩⟩⟩⟩))).2.1 (Kd.R_F (Kd.R_mono (ok' := (fun k_ => (b7 k_ ∨ w.heap.size ≤ k_) ∧ some k_ ≠ (.slice b4 a9.length b3 : Value).ownBlock ∧ k_ ≠ b6 ∧ k_ ≠ b5 ∧ k_ ≠ a8)) (Kd.R_types (Kd.R_types (Kd.R_types (j0.out) a1.out (by decide)) a5.out (by decide)) a3.out (by decide)) (fun k_ hk => ⟨(.inr (hk.1.1.1.1.1)), ⟨hk.1.1.1.2, ⟨hk.1.1.2, ⟨hk.1.2, hk.2⟩⟩⟩⟩))))) (Reps.none _ _))))
        intro J0 J1 h9 hb hg_ hnew_
        clear hg_ hnew_
        (first | rw [← o4.out] at h9 | (simp only [Int.reduceToNat] at h9; rw [← o4.out] at h9))
        replace a4 := zA (Kd.V_elder' (zV a4.out) (Kd.N_base h9) hb)
        replace a7 := zr a7 hb
        have t5 := zA (Kd.N_lower h9 (below_size (zW HB.out)))
        replace a1 := zb a1 hb
        replace a5 := zb a5 hb
        replace a3 := zb a3 hb
        replace HB := zh HB hb
        clear j0
        clear hb h9
        refine hK.out _ _ zO fun hHeld => ?_
        clear hK K
        refine zn ?_
        refine zp 4 6 ?_
        refine done_ (by kernel_rfl) ?_
        try go_wp2
        go_ret
        exact ⟨_, zE, zNt (Kd.N_mono t5.out (fun _ hk => hk.1)), zW HB.out⟩
       ·obtain ⟨t6, l2⟩ : ∃ y_ : List (S75), y_ = (([(⟨0, (⟨b0, b1, b2, a6⟩ : S32)⟩ : S75)] : List (S75))) := ⟨_, rfl⟩
        replace H : (some t6) = some r := zY l2 H
        have o8 := zA l2
        clear l2
        obtain rfl := zm H
        generalize hw_ : ((((c9.setCell ⟨a8, 0, none⟩ (.int .i64 c1)).setCell ⟨a8, 1, none⟩ (.int .i64 c2)).setCell ⟨a8, 2, none⟩ (.int .i64 c3)).setCell ⟨a8, 3, none⟩ (.slice b4 a9.length b3)) = o9
        have hw := hw_.symm
        clear hw_
        replace a4 : Aside0 (Kd.V Kd.string 9 o9 w.heap.size (fun k_ => (b7 k_ ∨ w.heap.size ≤ k_) ∧ some k_ ≠ (.slice b4 a9.length b3 : Value).ownBlock ∧ k_ ≠ b6 ∧ k_ ≠ b5 ∧ k_ ≠ a8) (.slice b9 a6.length b8) a6) := ⟨(by rw [hw]; exact (zVt (Kd.V_mono (zv4 a4.out (fun _ hk => hk.2)) (fun _ hk => ⟨hk.1.1.1.1, ⟨hk.1.2, ⟨hk.1.1.1.2, ⟨hk.1.1.2, hk.2⟩⟩⟩⟩))))⟩
        replace a7 : Aside0 (Kd.R Kd.string 9 o9 w.heap.size (fun k_ => (w.heap.size ≤ k_)) (.slice b4 a9.length b3) a9) := ⟨(by rw [hw]; exact (zR (Kd.R_mono (zr4 a7.out a3.out) (fun _ hk => hk.1))))⟩
        replace a1 := zA (zh1 hw (zK a1.out))
        replace a5 := zA (zh1 hw (zK a5.out))
        replace a3 := zA (zh1 hw (zk4 a3.out))
        replace HB := zA (zh2 hw (zW HB.out))
        clear hw
        obtain ⟨J2, J3, J4, J5, J6, J7, J8, J9⟩ := ze4 a1.out
        (try simp only [c4, c6, c7, c8, d0, d1, d8, d9, i1, i2, i7, i8, k9])
        go_wp2_with (first | ((with_reducible refine gate_dst (N := 73) rfl ?_); refine zNl k75 75 73 (xs := ([(⟨0, (⟨b0, b1, b2, a6⟩ : S32)⟩ : S75)] : List (S75))) (inner := [.int .i64 0, .int .i64 b0, .int .i64 b1, .int .i64 b2, .slice b9 a6.length b8]) (ok := (fun k_ => (b7 k_ ∨ w.heap.size ≤ k_) ∧ some k_ ≠ (.slice b4 a9.length b3 : Value).ownBlock ∧ k_ ≠ b6 ∧ k_ ≠ b5 ∧ k_ ≠ a8)) ((Reps.c5 (show Kd.FK k75 _ _ (⟨0, (⟨b0, b1, b2, a6⟩ : S32)⟩ : S75) [.int .i64 0, .int .i64 b0, .int .i64 b1, .int .i64 b2, .slice b9 a6.length b8] from (k75_mkF _ _ (⟨0, (⟨b0, b1, b2, a6⟩ : S32)⟩ : S75) (Kd.V_reads' (a4.out)).2.1 (Kd.V_F (a4.out)))) (Reps.none _ _))) (fun k_ hk => ⟨(.inr (Nat.le_trans (below_size (zW HB.out)) hk)), Kd.fresh' (Kd.R_lt (zR a7.out)) k_ hk, Kd.freshB (zK a1.out) k_ hk, Kd.freshB (zK a5.out) k_ hk, Kd.freshB (zK a3.out) k_ hk⟩) ?_; intro L0 L1 i0 hb hg_ hnew_; clear hg_ hnew_; (first | rw [← o8.out] at i0 | (simp only [Int.reduceToNat] at i0; rw [← o8.out] at i0)); replace a4 := zA (Kd.V_elder' (zV a4.out) (Kd.N_base i0) hb); replace a7 := zr a7 hb; have t7 := zA (Kd.N_lower i0 (below_size (zW HB.out))); replace a1 := zb a1 hb; replace a5 := zb a5 hb; replace a3 := zb a3 hb; replace HB := zh HB hb; clear hb i0))
        go_ret
        exact ⟨_, zE, zNt (Kd.N_mono t7.out (fun _ hk => hk.1)), zW HB.out⟩
/-! ### impl_cmpsOf: function 129 -/
theorem impl_cmpsOf.drawn {w w' : World} (h : Drawn0 w w') : Below w.heap.size w w' := by
 obtain ⟨n_, e_⟩ := h.out
 rw [e_]
 exact pw_below_drewN (Below.refl _ _) n_
def impl_cmpsOf.signs : List ByteArray := [(⟨#[94]⟩ : ByteArray), (⟨#[126]⟩ : ByteArray), (⟨#[62, 61]⟩ : ByteArray), (⟨#[62]⟩ : ByteArray), (⟨#[60, 61]⟩ : ByteArray), (⟨#[60]⟩ : ByteArray), (⟨#[61]⟩ : ByteArray), (⟨#[]⟩ : ByteArray)]
def impl_cmpsOf.go (k : Nat) (a0 : ByteArray) : List ByteArray → Option ((List (S75)) × Bool)
 | [] => some ([], false)
 | g :: r => (strings_CutPrefix.f a0 g).bind fun t => if t.2 = true then (impl_partOf.f k t.1).bind fun p => if p.2.2.2.2.2 = true then (impl_wordCmps.f k g p.1 p.2.1 p.2.2.1 p.2.2.2.1 p.2.2.2.2.1).bind fun l => some (l, true) else some ([], false) else impl_cmpsOf.go k a0 r
def impl_cmpsOf.f (k : Nat) (a0 : ByteArray) : Option ((List (S75)) × Bool) := if a0.toList = ([42] : List UInt8) then some ([(⟨4, (⟨0, 0, 0, ([] : List ByteArray)⟩ : S32)⟩ : S75)], true) else impl_cmpsOf.go k a0 impl_cmpsOf.signs
theorem impl_cmpsOf.at (m : Nat) (hm : m < 8) : ∃ g, impl_cmpsOf.signs.drop m = g :: impl_cmpsOf.signs.drop (m + 1) ∧ ∀ W : World, (Instr.index 184 (.agg #[.string ⟨#[94]⟩, .string ⟨#[126]⟩, .string ⟨#[62, 61]⟩, .string ⟨#[62]⟩, .string ⟨#[60, 61]⟩, .string ⟨#[60]⟩, .string ⟨#[61]⟩, .string ⟨#[]⟩]) (.int .i64 (m : Int))).run Tryz.prog W = .ok (.string g) W := by
 match m, hm with
 | 0, _ => exact ⟨_, rfl, fun W => by kernel_rfl⟩
 | 1, _ => exact ⟨_, rfl, fun W => by kernel_rfl⟩
 | 2, _ => exact ⟨_, rfl, fun W => by kernel_rfl⟩
 | 3, _ => exact ⟨_, rfl, fun W => by kernel_rfl⟩
 | 4, _ => exact ⟨_, rfl, fun W => by kernel_rfl⟩
 | 5, _ => exact ⟨_, rfl, fun W => by kernel_rfl⟩
 | 6, _ => exact ⟨_, rfl, fun W => by kernel_rfl⟩
 | 7, _ => exact ⟨_, rfl, fun W => by kernel_rfl⟩
 | m + 8, h => omega
theorem impl_cmpsOf.calls (k : Nat) (a0 : ByteArray) (r1 : List (S75)) (r2 : Bool) (w : World) (hG : GW w) (h : impl_cmpsOf.f k a0 = some (r1, r2)) :
  Calls Tryz.prog 129 #[.string a0] w fun e w' => ∃ a3 : Value, e = .returned (.tuple #[a3, .bool r2]) ∧ Kd.N k75 75 w' w.heap.size (fun k_ => (w.heap.size ≤ k_)) a3 r1 ∧ Below w.heap.size w w' := by
 have hu_ := Tryz.underlying32
 have b5 := Tryz.underlying75
 have HG := zA hG
 have HB := zA (Below.refl w.heap.size w)
 clear hG
 unfold impl_cmpsOf.f at h
 by_cases c3 : a0.toList = ([42] : List UInt8)
 ·rw [if_pos c3] at h
  have a5 := beq_iff_eq.mpr c3
  clear c3
  simp only [Option.some.injEq, Prod.mk.injEq] at h
  obtain ⟨rfl, rfl⟩ := h
  go_enter Tryz.func129, Tryz.ntmps129
  go_wp2_with (first | ((with_reducible refine gate_dst (N := 14) rfl ?_); refine zNl k75 75 14 (xs := ([(⟨4, (⟨0, 0, 0, ([] : List ByteArray)⟩ : S32)⟩ : S75)] : List (S75))) (inner := [.int .i64 4, .int .i64 0, .int .i64 0, .int .i64 0, .slice none 0 0]) (ok := (fun k_ => (w.heap.size ≤ k_))) ((Reps.c5 (show Kd.FK k75 _ _ (⟨4, (⟨0, 0, 0, ([] : List ByteArray)⟩ : S32)⟩ : S75) [.int .i64 4, .int .i64 0, .int .i64 0, .int .i64 0, .slice none 0 0] from (k75_mkF _ _ (⟨4, (⟨0, 0, 0, ([] : List ByteArray)⟩ : S32)⟩ : S75) (Nat.le_refl _) (Kd.F_nil _ _ _))) (Reps.none _ _))) (fun k_ hk => (Nat.le_trans (below_size (zW HB.out)) hk)) ?_; intro b6 w4 a4 hb hg_ hnew_; clear hg_ hnew_; have HN := zA (Kd.N_lower a4 (below_size (zW HB.out))); replace HB := zh HB hb; clear hb a4))
  go_ret2
  exact ⟨_, rfl, zN HN.out, zW HB.out⟩
 ·rw [if_neg c3] at h
  have a5 := beq_eq_false_iff_ne.mpr c3
  have REST := zA h
  clear c3 h
  go_enter Tryz.func129, Tryz.ntmps129
  go_wp2
  go_loopg [16] 8 (fun gg a6 wr => ∃ m : Nat, m ≤ 8 ∧ 8 - m ≤ gg ∧ a6 = .int .i64 (m : Int) ∧ Aside0 (impl_cmpsOf.go k a0 (impl_cmpsOf.signs.drop m) = some (r1, r2)) ∧ Aside0 (Below w.heap.size w wr))
  case atStart => exact ⟨0, by omega, by omega, rfl, REST, ⟨zW HB.out⟩⟩
  case round =>
   clear REST HB
   obtain ⟨m, b7, hmg, rfl, REST, HB⟩ := hrel
   have H := REST.out
   clear REST
   by_cases hm : m < 8
   ·obtain ⟨g, hdrop, hidx⟩ := impl_cmpsOf.at m hm
    rw [hdrop] at H
    have hlt : (m : Int) < 8 := by omega
    replace H : ((strings_CutPrefix.f a0 g).bind fun t => if t.2 = true then (impl_partOf.f k t.1).bind fun p => if p.2.2.2.2.2 = true then (impl_wordCmps.f k g p.1 p.2.1 p.2.2.1 p.2.2.2.1 p.2.2.2.2.1).bind fun l => some (l, true) else some ([], false) else impl_cmpsOf.go k a0 (impl_cmpsOf.signs.drop (m + 1))) = some (r1, r2) := H
    replace H := Option.bind_eq_some_iff.mp H
    obtain ⟨⟨rest, has⟩, ht, H⟩ := H
    have CP := zA ht
    clear ht hdrop
    cases has with
    | false =>
     replace H : impl_cmpsOf.go k a0 (impl_cmpsOf.signs.drop (m + 1)) = some (r1, r2) := H
     have RST := zA H
     clear H
     go_wp2_with (first
      | (go_at_call 167; (with_reducible refine (strings_CutPrefix.calls a0 g rest false _ CP.out).mono ?_); rintro e w2 ⟨rfl, hd⟩; replace HB := zA (below_step (zW HB.out) (impl_cmpsOf.drawn hd)); clear hd))
     go_roundg (8 - (m + 1))
     case measure => omega
     case rel => exact ⟨m + 1, by omega, by omega, by go_num, RST, ⟨zW HB.out⟩⟩
    | true =>
     replace H : ((impl_partOf.f k rest).bind fun p => if p.2.2.2.2.2 = true then (impl_wordCmps.f k g p.1 p.2.1 p.2.2.1 p.2.2.2.1 p.2.2.2.2.1).bind fun l => some (l, true) else some ([], false)) = some (r1, r2) := H
     replace H := Option.bind_eq_some_iff.mp H
     obtain ⟨⟨va, vb, vc, vl, told, ok⟩, hp, H⟩ := H
     have PO := zA hp
     clear hp
     cases ok with
     | false =>
      replace H : some (([] : List (S75)), false) = some (r1, r2) := H
      simp only [zU] at H
      obtain ⟨rfl, rfl⟩ := H
      go_wp2_with (first
       | (go_at_call 167; (with_reducible refine (strings_CutPrefix.calls a0 g rest true _ CP.out).mono ?_); rintro e w2 ⟨rfl, hd⟩; replace HB := zA (below_step (zW HB.out) (impl_cmpsOf.drawn hd)); clear hd)
       | (go_at_call 168; (with_reducible refine (impl_partOf.calls k rest va vb vc vl told false _ ?hgw PO.out).mono ?_); (case hgw => exact GW.below HG.out (zW HB.out)); rintro e w3 ⟨v3, rfl, ho, hb⟩; have a1 := zA (below_step (zW HB.out) hb); have HP := zA (Kd.R_lower ho (below_size (zW HB.out))); clear HB; have HB := a1; clear a1 hb ho; obtain ⟨Ao, co, eo⟩ := Kd.R_slice HP.out; subst eo)
       | ((with_reducible refine zd 8 ?_); refine ze 8 32 #[.int .i64 0, .int .i64 0, .int .i64 0, .slice none 0 0] ?_; intro gv hg w4 hbox hb; have a1 := zA (below_step (zW HB.out) hb); have a2 := zA (Kd.R_types (Kd.R_below (zR HP.out) hb) hbox (by decide)); have BV := zA hbox; have GV := zA ((by rw [hg]; exact below_size (zW HB.out)) : w.heap.size ≤ gv); clear HB HP; have HB := a1; have HP := a2; clear a1 a2 hb hbox hg; have hnv := trivial; have a7 := zc0 BV.out; have a8 := zF BV.out 0; have a9 := zc1 BV.out; have b0 := zF BV.out 1; have b1 := zc2 BV.out; have b2 := zF BV.out 2; have b3 := zc3 BV.out; have b4 := zF BV.out 3))
      go_ret2
      exact ⟨_, rfl, Kd.N_nil _ _ _ _ _, zW HB.out⟩
     | true =>
      replace H : ((impl_wordCmps.f k g va vb vc vl told).bind fun l => some (l, true)) = some (r1, r2) := H
      replace H := Option.bind_eq_some_iff.mp H
      obtain ⟨l, hl, H⟩ := H
      simp only [zU] at H
      obtain ⟨rfl, rfl⟩ := H
      have WC := zA hl
      clear hl
      go_wp2_with (first
       | (go_at_call 167; (with_reducible refine (strings_CutPrefix.calls a0 g rest true _ CP.out).mono ?_); rintro e w2 ⟨rfl, hd⟩; replace HB := zA (below_step (zW HB.out) (impl_cmpsOf.drawn hd)); clear hd)
       | (go_at_call 168; (with_reducible refine (impl_partOf.calls k rest va vb vc vl told true _ ?hgw PO.out).mono ?_); (case hgw => exact GW.below HG.out (zW HB.out)); rintro e w3 ⟨v3, rfl, ho, hb⟩; have a1 := zA (below_step (zW HB.out) hb); have HP := zA (Kd.R_lower ho (below_size (zW HB.out))); clear HB; have HB := a1; clear a1 hb ho; obtain ⟨Ao, co, eo⟩ := Kd.R_slice HP.out; subst eo)
       | ((with_reducible refine zd 8 ?_); refine ze 8 32 #[.int .i64 0, .int .i64 0, .int .i64 0, .slice none 0 0] ?_; intro gv hg w4 hbox hb; have a1 := zA (below_step (zW HB.out) hb); have a2 := zA (Kd.R_types (Kd.R_below (zR HP.out) hb) hbox (by decide)); have BV := zA hbox; have GV := zA ((by rw [hg]; exact below_size (zW HB.out)) : w.heap.size ≤ gv); clear HB HP; have HB := a1; have HP := a2; clear a1 a2 hb hbox hg; have hnv := trivial; have a7 := zc0 BV.out; have a8 := zF BV.out 0; have a9 := zc1 BV.out; have b0 := zF BV.out 1; have b1 := zc2 BV.out; have b2 := zF BV.out 2; have b3 := zc3 BV.out; have b4 := zF BV.out 3))
      (with_reducible refine (impl_wordCmps.calls k g va vb vc (fun k_ => w.heap.size ≤ k_) Ao co vl told l _ ?s1 WC.out).mono ?_)
      (case s1 => exact Kd.R_V (Kd.R_mono (Kd.R_bound (ok := fun k_ => True ∧ k_ ≠ gv) (by (with_reducible repeat (first | apply Kd.R_alloc | apply Kd.R_drewN | apply Kd.R_drew | refine Kd.R_far ?_ (fun _ hk => hk.2) _)); exact HP.out)) (fun k_ hk => hk.2.1)))
      rintro e w6 ⟨v6, rfl, ho, hb⟩
      have HN := zA (Kd.N_mono (ok' := fun k_ => (w.heap.size ≤ k_)) (Kd.N_lower ho (below_size (zW HB.out))) (fun k_ hk => hk.elim id (fun h_ => Nat.le_trans (below_size (zW HB.out)) h_)))
      replace HB := zh HB hb
      clear ho hb
      go_wp2
      go_ret2
      exact ⟨_, rfl, zN HN.out, zW HB.out⟩
   ·obtain rfl : m = 8 := by omega
    replace H : some (([] : List (S75)), false) = some (r1, r2) := H
    simp only [zU] at H
    obtain ⟨rfl, rfl⟩ := H
    have hlt : ¬ (((8 : Nat) : Int) < 8) := by omega
    go_wp2
    go_ret2
    exact ⟨_, rfl, Kd.N_nil _ _ _ _ _, zW HB.out⟩
/-! ### impl_listOf: function 82 -/
mutual
def impl_listOf.j0 : Nat → List ByteArray → Bool → Option ((List (S75)) × Bool)
 | 0, _, _ => none
 | k + 1, x4, b0 => if b0 = true then (if 0 < (x4.length : Int) then ((impl_ParseVer.f k (rdOf ByteArray.empty x4 0)).bind fun a2 => (if 2 < (x4.length : Int) then ((impl_ParseVer.f k (rdOf ByteArray.empty x4 2)).bind fun a3 => ((some (([(⟨4, (⟨a2.1, a2.2.1, a2.2.2.1, a2.2.2.2.1⟩ : S32)⟩ : S75), (⟨2, (⟨a3.1, a3.2.1, a3.2.2.1, a3.2.2.2.1⟩ : S32)⟩ : S75)] : List (S75)) : List (S75))).bind fun a7 => (if a2.2.2.2.2 = true then (some (a7, a3.2.2.2.2)) else (some (a7, false))))) else (none))) else (none)) else (impl_listOf.j1 k x4)
def impl_listOf.j1 : Nat → List ByteArray → Option ((List (S75)) × Bool)
 | 0, _ => none
 | k + 1, x4 => impl_listOf.l0 k ([] : List (S75)) x4 (x4.length : Int) 0
def impl_listOf.l0 : Nat → List (S75) → List ByteArray → Int → Int → Option ((List (S75)) × Bool)
 | 0, _, _, _, _ => none
 | k + 1, x9, a5, a8, a4 => if a4 < a8 then (if 0 ≤ a4 then (if a4 < (a5.length : Int) then ((impl_cmpsOf.f k (rdOf ByteArray.empty a5 a4)).bind fun a6 => (if a6.2 = true then (if x9.length + a6.1.length < 2513169434916 then (impl_listOf.l0 k (x9 ++ a6.1) a5 a8 (wrap64 (a4 + 1))) else (none)) else (some (([] : List (S75)), false)))) else (none)) else (none)) else (impl_listOf.l1 k x9 x9 (x9.length : Int) 0)
def impl_listOf.l1 : Nat → List (S75) → List (S75) → Int → Int → Option ((List (S75)) × Bool)
 | 0, _, _, _, _ => none
 | k + 1, x9, a1, a9, a0 => if a0 < a9 then (if 0 ≤ a0 then (if a0 < (a1.length : Int) then ((impl_VerOk.f k ((rd_T75 a1 a0).f1.f0) ((rd_T75 a1 a0).f1.f1) ((rd_T75 a1 a0).f1.f2) ((rd_T75 a1 a0).f1.f3)).bind fun b1 => (if b1 = true then (impl_listOf.l1 k x9 a1 a9 (wrap64 (a0 + 1))) else (some (([] : List (S75)), false)))) else (none)) else (none)) else (some (x9, decide ((x9.length : Int) ≤ 4)))
end
def impl_listOf.f (k : Nat) (a0 : ByteArray) : Option ((List (S75)) × Bool) := (strings_Trim.f a0 (⟨#[32]⟩ : ByteArray)).bind fun a2 => ((strings_Split.f a2 (⟨#[32]⟩ : ByteArray)).bind fun a1 => (if (a1.length : Int) = 3 then (if 1 < (a1.length : Int) then (impl_listOf.j0 k a1 ((rdOf ByteArray.empty a1 1).toList == ([45] : List UInt8))) else (none)) else (impl_listOf.j0 k a1 false)))
theorem impl_listOf.calls (k : Nat) (a0 : ByteArray) (r1 : List (S75)) (r2 : Bool) (w : World) (hG : GW w) (h : impl_listOf.f k a0 = some (r1, r2)) :
  Calls Tryz.prog 82 #[.string a0] w fun e w' => ∃ v5 : Value, e = .returned (.tuple #[v5, .bool r2]) ∧ Kd.N k75 75 w' w.heap.size (fun k_ => (w.heap.size ≤ k_)) v5 r1 ∧ Below w.heap.size w w' := by
 have D3 := Tryz.underlying32
 have D4 := Tryz.underlying75
 have HG := zA hG
 clear hG
 have HB := zA (Below.refl w.heap.size w)
 unfold impl_listOf.f at h
 have H := h
 clear h
 replace H := Option.bind_eq_some_iff.mp H
 obtain ⟨j5, v6, H⟩ := H
 try dsimp only at H
 have A2 := zA v6
 clear v6
 replace H := Option.bind_eq_some_iff.mp H
 obtain ⟨a1, v7, H⟩ := H
 try dsimp only at H
 have A3 := zA v7
 clear v7
 have j6 := zA H
 clear H
 go_enter Tryz.func82, Tryz.ntmps82
 go_upto_region 2 with (first | ((with_reducible refine zq 127 ?_); refine zg (some 17) Tryz.func127 #[.string a0, .string (⟨#[32]⟩ : ByteArray)] ?_; (with_reducible refine (strings_Trim.calls a0 (⟨#[32]⟩ : ByteArray) j5 _ A2.out).mono ?_); rintro e w' ⟨rfl, ⟨nd, rfl⟩⟩; refine ⟨_, rfl, ?_⟩) | ((with_reducible refine zq 81 ?_); refine zg (some 18) Tryz.func81 #[.string j5, .string (⟨#[32]⟩ : ByteArray)] ?_; (with_reducible refine (strings_Split.calls j5 (⟨#[32]⟩ : ByteArray) a1 _ ?s1 A3.out).mono ?_); (case s1 => exact GW.below HG.out (zB)); rintro e w5 ⟨v8, rfl, a7, hb⟩; refine ⟨_, rfl, ?_⟩; have h4 := zA (Kd.R_lower (Kd.R_newM (M := fun k_ => (w.heap.size ≤ k_)) a7 (below_size (zB)) (fun k_ h_ => h_)) (below_size (zB))); replace HB := zA (below_step (zB) hb); (try clear hb a7)))
 (try simp only [Act.put, zT])
 go_cut [27] (fun y7 wc => ∃ (kq : Nat) (j7 : Bool), y7 = .bool j7 ∧ Aside0 (impl_listOf.j0 kq a1 j7 = some (r1, r2)) ∧ Aside0 (kq ≤ k) ∧ Aside0 (Kd.R Kd.string 9 wc w.heap.size (fun k_ => (w.heap.size ≤ k_)) v8 a1) ∧ Aside0 (Below w.heap.size w wc))
 case first =>
  have H := j6.out
  clear j6
  replace H := zI1 H
  rcases H with ⟨c6, H⟩ | ⟨c6, H⟩
  ·have d9 := beq_iff_eq.mpr c6
   have h5 := bne_eq_false_iff_eq.mpr c6
   clear c6
   (first | rw [d9] | (simp only [i64_w, i32_w]; rw [d9]) | skip)
   replace H := zC0 H
   obtain ⟨c7, H⟩ := H
   have i7 := decide_eq_true c7
   have i8 : decide (1 < a1.length) = true := decide_eq_true (by omega)
   clear c7
   have H' := zA H
   clear H
   obtain ⟨D5, D6, y8⟩ := Kd.R_slice h4.out
   subst y8
   have f8 : 0 ≤ (1 : Int) := (by omega)
   have f9 : 1 < (a1.length : Int) := zD
   obtain ⟨D7, y9, g5⟩ := Kd.at_string (Kd.R_reads' h4.out).2.2 1 f8 f9
   cases y9
   (try simp only [show (1 : Int).toNat = 1 from rfl, Nat.reduceMul, Nat.reduceEqDiff, Go.Addr.add, ↓reduceIte] at g5)
   have D8 : (1 < a1.length) = True := eq_true (by omega)
   (try rw [show ((1 : Int)).toNat = 1 from rfl] at g5)
   replace f8 := eq_true f8
   replace f9 := eq_true f9
   go_wp2
   go_meet
   case rel => exact ⟨_, (((rdOf ByteArray.empty a1 1).toList == ([45] : List UInt8))), zS, (by first | exact H' | (subst_vars; exact H')), ⟨by first | omega | exact Nat.le_refl _⟩, ⟨zR (Kd.R_mono h4.out (fun _ hk => hk.1))⟩, ⟨zB⟩⟩
  ·have d9 := beq_eq_false_iff_ne.mpr c6
   have h5 := bne_iff_ne.mpr c6
   (first | rw [d9] | (simp only [i64_w, i32_w]; rw [d9]) | skip)
   have H' := zA H
   clear H
   obtain ⟨D9, E0, z0⟩ := Kd.R_slice h4.out
   subst z0
   go_wp2
   go_meet
   case rel => exact ⟨_, (false), zS, (by first | exact H' | (subst_vars; exact H')), ⟨by first | omega | exact Nat.le_refl _⟩, ⟨zR (Kd.R_mono h4.out (fun _ hk => hk.1))⟩, ⟨zB⟩⟩
 case rest =>
  clear j6
  try clear c1
  try clear p2
  try clear c6
  try clear d9
  try clear h5
  try clear p6
  try clear q6
  try clear hx6
  try clear qi6
  try clear c7
  try clear i7
  try clear i8
  try clear c8
  try clear g5
  try clear f8
  try clear f9
  obtain ⟨kq, j7, rfl, HA, h6, a3, HB⟩ := hcut
  cases kq with
  | zero => exact absurd HA.out (by simp [impl_listOf.j0])
  | succ h7 =>
   have H := HA.out
   clear HA
   simp only [impl_listOf.j0] at H
   have j8 := zA H
   clear H
   go_upto_if 27 with (fail)
   go_cut [] (fun wc => ∃ (kq : Nat), Aside0 (impl_listOf.j1 kq a1 = some (r1, r2)) ∧ Aside0 (kq ≤ h7) ∧ Aside0 (Kd.R Kd.string 9 wc w.heap.size (fun k_ => (w.heap.size ≤ k_)) v8 a1) ∧ Aside0 (Below w.heap.size w wc))
   case first =>
    have H := j8.out
    clear j8
    replace H := zB0 H
    rcases H with ⟨rfl, H⟩ | ⟨rfl, H⟩
    ·replace H := zC0 H
     obtain ⟨h8, H⟩ := H
     have h9 := decide_eq_true h8
     have j9 : decide (0 < a1.length) = true := decide_eq_true (by omega)
     clear h8
     (first | rw [h9] | (simp only [i64_w, i32_w]; rw [h9]) | skip)
     replace H := Option.bind_eq_some_iff.mp H
     obtain ⟨⟨b7, b8, b9, b2, z1⟩, x0, H⟩ := H
     try dsimp only at H
     have x1 := zA x0
     clear x0
     replace H := zC0 H
     obtain ⟨i0, H⟩ := H
     have k0 := decide_eq_true i0
     have k1 : decide (2 < a1.length) = true := decide_eq_true (by omega)
     clear i0
     replace H := Option.bind_eq_some_iff.mp H
     obtain ⟨⟨c0, c9, d0, b3, k2⟩, x2, H⟩ := H
     try dsimp only at H
     have x3 := zA x2
     clear x2
     obtain ⟨x4, k5⟩ : ∃ y_ : List (S75), y_ = (([(⟨4, (⟨b7, b8, b9, b2⟩ : S32)⟩ : S75), (⟨2, (⟨c0, c9, d0, b3⟩ : S32)⟩ : S75)] : List (S75))) := ⟨_, rfl⟩
     replace H : (if z1 = true then (some (x4, k2)) else (some (x4, false))) = some (r1, r2) := zY k5 H
     have i9 := zA k5
     clear k5
     replace H := zB0 H
     rcases H with ⟨rfl, H⟩ | ⟨rfl, H⟩
     ·simp only [zU] at H
      obtain ⟨rfl, rfl⟩ := H
      obtain ⟨E1, e8, z2⟩ := Kd.R_slice a3.out
      subst z2
      have d5 : 0 ≤ (0 : Int) := (by omega)
      have d6 : 0 < (a1.length : Int) := zD
      obtain ⟨a8, k6, e9⟩ := Kd.at_string (Kd.R_reads' a3.out).2.2 0 d5 d6
      cases k6
      have z3 : (0 < a1.length) = True := eq_true (by omega)
      (try rw [show ((0 : Int)).toNat = 0 from rfl] at e9)
      (try rw [Addr.add_zero'] at e9)
      replace d5 := eq_true d5
      replace d6 := eq_true d6
      go_wp2_with (first | ((with_reducible refine zq 128 ?_); refine zg (some 32) Tryz.func128 #[.string (rdOf ByteArray.empty a1 0)] ?_; (with_reducible refine (impl_ParseVer.calls h7 (rdOf ByteArray.empty a1 0) b7 b8 b9 b2 true _ ?s1 x1.out).mono ?_); (case s1 => exact GW.below HG.out (zB)); rintro e E2 ⟨z4, rfl, a7, hb⟩; refine ⟨_, rfl, ?_⟩; have a9 := zA (Kd.R_lower (Kd.R_new' (Kd.R_newM (M := fun k_ => (w.heap.size ≤ k_)) a7 (below_size (zB)) (fun k_ h_ => h_)) (Kd.R_lt (zR a3.out))) (below_size (zB))); replace a3 := zA (Kd.R_elder' (zR a3.out) (Kd.R_base a7) hb); replace HB := zA (below_step (zB) hb); (try clear hb a7)) | ((with_reducible refine zd 5 ?_); refine ze 5 32 #[.int .i64 0, .int .i64 0, .int .i64 0, .slice none 0 0] ?_; intro b0 hg E3 hbox hb; replace a3 := zr a3 hb; replace a9 := zr a9 hb; have a2 := zA (hbox); have z5 := zi HB hg; have z6 := zi HB hg; replace HB := zA (below_step (zB) hb); clear hb hbox hg; obtain ⟨k7, k8, k9, l2, l3, l4, l5, l6⟩ := ze4 a2.out; obtain ⟨g6, g7, z7⟩ := Kd.R_slice a9.out; subst z7; have d7 : 0 ≤ (2 : Int) := (by omega); have d8 : 2 < (a1.length : Int) := zD; obtain ⟨l7, l8, b1⟩ := Kd.at_string (Kd.R_reads' a3.out).2.2 2 d7 d8; obtain rfl : a8 = l7 := (by injection l8); (try simp only [show (2 : Int).toNat = 2 from rfl, Nat.reduceMul, Nat.reduceEqDiff, Go.Addr.add, ↓reduceIte] at b1); have z8 : (2 < a1.length) = True := eq_true (by omega); (try rw [show ((2 : Int)).toNat = 2 from rfl] at b1); have e0 : a8.block ≠ b0 := Kd.own_blk (Kd.R_ne a3.out a2.out (by decide)); have e1 : a8.block ≠ b0 := Kd.own_blk (Kd.R_ne a3.out a2.out (by decide)); have e2 : a8.block ≠ b0 := Kd.own_blk (Kd.R_ne a3.out a2.out (by decide)); have e3 : a8.block ≠ b0 := Kd.own_blk (Kd.R_ne a3.out a2.out (by decide)); replace b1 := (cell_far (p := ⟨b0, 0, none⟩) (by first | (rw [add_block]; exact e0) | (show (Addr.add _ _).block ≠ _; rw [add_block]; exact e0) | exact e0) (.int .i64 b7)).trans b1; replace b1 := (cell_far (p := ⟨b0, 1, none⟩) (by first | (rw [add_block]; exact e1) | (show (Addr.add _ _).block ≠ _; rw [add_block]; exact e1) | exact e1) (.int .i64 b8)).trans b1; replace b1 := (cell_far (p := ⟨b0, 2, none⟩) (by first | (rw [add_block]; exact e2) | (show (Addr.add _ _).block ≠ _; rw [add_block]; exact e2) | exact e2) (.int .i64 b9)).trans b1; replace b1 := (cell_far (p := ⟨b0, 3, none⟩) (by first | (rw [add_block]; exact e3) | (show (Addr.add _ _).block ≠ _; rw [add_block]; exact e3) | exact e3) (.slice g6 b2.length g7)).trans b1; clear e0; clear e1; clear e2; clear e3; replace d7 := eq_true d7; replace d8 := eq_true d8) | ((with_reducible refine zq 128 ?_); refine zg (some 39) Tryz.func128 #[.string (rdOf ByteArray.empty a1 2)] ?_; (with_reducible refine (impl_ParseVer.calls h7 (rdOf ByteArray.empty a1 2) c0 c9 d0 b3 k2 _ ?s1 x3.out).mono ?_); (case s1 => exact GW.below HG.out (zW HB.out)); rintro e E4 ⟨z9, rfl, a7, hb⟩; refine ⟨_, rfl, ?_⟩; have b6 := zA (Kd.R_lower (Kd.R_new' (Kd.R_new' (Kd.R_newM (M := fun k_ => (w.heap.size ≤ k_)) a7 (below_size (zW HB.out)) (fun k_ h_ => h_)) (Kd.R_lt (zR (zr4 a3.out a2.out)))) (Kd.R_lt (zR (zr4 a9.out a2.out)))) (below_size (zW HB.out))); replace a3 := zA (Kd.R_elder' (zR (zr4 a3.out a2.out)) (Kd.R_base a7) hb); replace a9 := zA (Kd.R_elder' (zR (zr4 a9.out a2.out)) (Kd.R_base a7) hb); replace a2 := zA (blk_below (zk4 a2.out) hb); replace HB := zh HB hb; (try clear hb a7)) | ((with_reducible refine zd 7 ?_); refine ze 7 32 #[.int .i64 0, .int .i64 0, .int .i64 0, .slice none 0 0] ?_; intro b5 hg A0 hbox hb; replace a3 := zr a3 hb; replace a9 := zr a9 hb; replace b6 := zr b6 hb; have a6 := zA (hbox); have A1 := zi HB hg; have A4 := zi HB hg; replace HB := zh HB hb; have l9 := zA (zL hg (zK a2.out)); have m0 := zA (zJ hg (zK a2.out)); replace a2 := zb a2 hb; clear hb hbox hg; have E5 := m0.out; have E6 := l9.out; obtain ⟨m1, m2, m3, m4, m5, m6, m7, m8⟩ := ze4 a6.out; obtain ⟨g8, g9, A5⟩ := Kd.R_slice b6.out; subst A5) | ((with_reducible refine gate_store (t := 32) (p := 7) rfl ?_); refine store_event (t := 32) (p := 7) (v := ?vo_w27) (w1 := ((((A0.setCell ⟨b5, 0, none⟩ (.int .i64 c0)).setCell ⟨b5, 1, none⟩ (.int .i64 c9)).setCell ⟨b5, 2, none⟩ (.int .i64 d0)).setCell ⟨b5, 3, none⟩ (.slice g8 b3.length g9))) ?hg ?ho ?hn ?hr ?_; (case ho => rfl); (case hg => rfl); (case hn => rfl); (case hr => first | (go_simp; done) | (go_simp; rfl)); intro m9 hw; replace a3 : Aside0 (Kd.R Kd.string 9 m9 w.heap.size (fun k_ => (w.heap.size ≤ k_) ∧ some k_ ≠ (.slice g6 b2.length g7 : Value).ownBlock ∧ some k_ ≠ (.slice g8 b3.length g9 : Value).ownBlock) (.slice (some a8) a1.length e8) a1) := ⟨(by rw [hw]; exact (zR (Kd.R_mono (zr4 a3.out a6.out) (fun _ hk => ⟨hk.1.1, ⟨hk.1.2, hk.2⟩⟩))))⟩; replace a9 : Aside0 (Kd.R Kd.string 9 m9 w.heap.size (fun k_ => (w.heap.size ≤ k_) ∧ some k_ ≠ (.slice (some a8) a1.length e8 : Value).ownBlock ∧ some k_ ≠ (.slice g8 b3.length g9 : Value).ownBlock) (.slice g6 b2.length g7) b2) := ⟨(by rw [hw]; exact (zR (Kd.R_mono (zr4 a9.out a6.out) (fun _ hk => ⟨hk.1.1.1, ⟨hk.1.2, hk.2⟩⟩))))⟩; replace b6 : Aside0 (Kd.R Kd.string 9 m9 w.heap.size (fun k_ => (w.heap.size ≤ k_) ∧ some k_ ≠ (.slice (some a8) a1.length e8 : Value).ownBlock ∧ some k_ ≠ (.slice g6 b2.length g7 : Value).ownBlock) (.slice g8 b3.length g9) b3) := ⟨(by rw [hw]; exact (zR (Kd.R_mono (zr4 b6.out a6.out) (fun _ hk => ⟨hk.1.1.1, ⟨hk.1.2, hk.2⟩⟩))))⟩; replace a2 := zA (zh1 hw (zK a2.out)); replace a6 := zA (zh1 hw (zk4 a6.out)); replace HB := zA (zh2 hw (zW HB.out)); clear hw; obtain ⟨n0, n1, n2, n3, n4, n5, n6, n7⟩ := ze4 a2.out; obtain ⟨n8, n9, o0, o1, o2, o3, o4, o5⟩ := ze4 a6.out) | ((with_reducible refine gate_dst (N := 46) rfl ?_); refine zNl k75 75 46 (xs := ([(⟨4, (⟨b7, b8, b9, b2⟩ : S32)⟩ : S75), (⟨2, (⟨c0, c9, d0, b3⟩ : S32)⟩ : S75)] : List (S75))) (inner := [.int .i64 4, .int .i64 b7, .int .i64 b8, .int .i64 b9, .slice g6 b2.length g7, .int .i64 2, .int .i64 c0, .int .i64 c9, .int .i64 d0, .slice g8 b3.length g9]) (ok := (fun k_ => (w.heap.size ≤ k_) ∧ some k_ ≠ (.slice (some a8) a1.length e8 : Value).ownBlock ∧ k_ ≠ b0 ∧ k_ ≠ b5)) ((Reps.c5 (show Kd.FK k75 _ _ (⟨4, (⟨b7, b8, b9, b2⟩ : S32)⟩ : S75) [.int .i64 4, .int .i64 b7, .int .i64 b8, .int .i64 b9, .slice g6 b2.length g7] from (k75_mkF _ _ (⟨4, (⟨b7, b8, b9, b2⟩ : S32)⟩ : S75) (Kd.R_reads' (Kd.R_mono (ok' := (fun k_ => (w.heap.size ≤ k_) ∧ some k_ ≠ (.slice (some a8) a1.length e8 : Value).ownBlock ∧ k_ ≠ b0 ∧ k_ ≠ b5)) (Kd.R_types (Kd.R_types (a9.out) a2.out (by decide)) a6.out (by decide)) (fun k_ hk => ⟨hk.1.1.1, ⟨hk.1.1.2.1, ⟨hk.1.2, hk.2⟩⟩⟩))).2.1 (Kd.R_F (Kd.R_mono (ok' := (fun k_ => (w.heap.size ≤ k_) ∧ some k_ ≠ (.slice (some a8) a1.length e8 : Value).ownBlock ∧ k_ ≠ b0 ∧ k_ ≠ b5)) (Kd.R_types (Kd.R_types (a9.out) a2.out (by decide)) a6.out (by decide)) (fun k_ hk => ⟨hk.1.1.1, ⟨hk.1.1.2.1, ⟨hk.1.2, hk.2⟩⟩⟩))))) (Reps.c5 (show Kd.FK k75 _ _ (⟨2, (⟨c0, c9, d0, b3⟩ : S32)⟩ : S75) [.int .i64 2, .int .i64 c0, .int .i64 c9, .int .i64 d0, .slice g8 b3.length g9] from (k75_mkF _ _ (⟨2, (⟨c0, c9, d0, b3⟩ : S32)⟩ : S75) (Kd.R_reads' (Kd.R_mono (ok' := (fun k_ => (w.heap.size ≤ k_) ∧ some k_ ≠ (.slice (some a8) a1.length e8 : Value).ownBlock ∧ k_ ≠ b0 ∧ k_ ≠ b5)) (Kd.R_types (Kd.R_types (b6.out) a2.out (by decide)) a6.out (by decide)) (fun k_ hk => ⟨hk.1.1.1, ⟨hk.1.1.2.1, ⟨hk.1.2, hk.2⟩⟩⟩))).2.1 (Kd.R_F (Kd.R_mono (ok' := (fun k_ => (w.heap.size ≤ k_) ∧ some k_ ≠ (.slice (some a8) a1.length e8 : Value).ownBlock ∧ k_ ≠ b0 ∧ k_ ≠ b5)) (Kd.R_types (Kd.R_types (b6.out) a2.out (by decide)) a6.out (by decide)) (fun k_ hk => ⟨hk.1.1.1, ⟨hk.1.1.2.1, ⟨hk.1.2, hk.2⟩⟩⟩))))) (Reps.none _ _)))) (fun k_ hk => ⟨(Nat.le_trans (below_size (zW HB.out)) hk), Kd.fresh' (Kd.R_lt (zR a3.out)) k_ hk, Kd.freshB (zK a2.out) k_ hk, Kd.freshB (zK a6.out) k_ hk⟩) ?_; intro A6 E7 i1 hb hg_ hnew_; clear hg_ hnew_; (first | rw [← i9.out] at i1 | (simp only [Int.reduceToNat] at i1; rw [← i9.out] at i1)); replace a3 := zr a3 hb; have o6 := zA (Kd.N_lower i1 (below_size (zW HB.out))); replace a2 := zb a2 hb; replace a6 := zb a6 hb; replace HB := zh HB hb; clear a9 b6; clear hb i1))
      go_ret2
      exact ⟨_, zE, zNt (Kd.N_mono o6.out (fun _ hk => hk.1)), zW HB.out⟩
     ·simp only [zU] at H
      obtain ⟨rfl, rfl⟩ := H
      obtain ⟨E8, f4, A7⟩ := Kd.R_slice a3.out
      subst A7
      have d5 : 0 ≤ (0 : Int) := (by omega)
      have d6 : 0 < (a1.length : Int) := zD
      obtain ⟨a8, k6, e9⟩ := Kd.at_string (Kd.R_reads' a3.out).2.2 0 d5 d6
      cases k6
      have z3 : (0 < a1.length) = True := eq_true (by omega)
      (try rw [show ((0 : Int)).toNat = 0 from rfl] at e9)
      (try rw [Addr.add_zero'] at e9)
      replace d5 := eq_true d5
      replace d6 := eq_true d6
      go_wp2_with (first | ((with_reducible refine zq 128 ?_); refine zg (some 32) Tryz.func128 #[.string (rdOf ByteArray.empty a1 0)] ?_; (with_reducible refine (impl_ParseVer.calls h7 (rdOf ByteArray.empty a1 0) b7 b8 b9 b2 false _ ?s1 x1.out).mono ?_); (case s1 => exact GW.below HG.out (zB)); rintro e E9 ⟨z4, rfl, a7, hb⟩; refine ⟨_, rfl, ?_⟩; have a9 := zA (Kd.R_lower (Kd.R_new' (Kd.R_newM (M := fun k_ => (w.heap.size ≤ k_)) a7 (below_size (zB)) (fun k_ h_ => h_)) (Kd.R_lt (zR a3.out))) (below_size (zB))); replace a3 := zA (Kd.R_elder' (zR a3.out) (Kd.R_base a7) hb); replace HB := zA (below_step (zB) hb); (try clear hb a7)) | ((with_reducible refine zd 5 ?_); refine ze 5 32 #[.int .i64 0, .int .i64 0, .int .i64 0, .slice none 0 0] ?_; intro b0 hg F0 hbox hb; replace a3 := zr a3 hb; replace a9 := zr a9 hb; have a2 := zA (hbox); have z5 := zi HB hg; have z6 := zi HB hg; replace HB := zA (below_step (zB) hb); clear hb hbox hg; obtain ⟨o7, o8, o9, p0, p1, p3, p4, p5⟩ := ze4 a2.out; obtain ⟨h0, h1, A8⟩ := Kd.R_slice a9.out; subst A8; have d7 : 0 ≤ (2 : Int) := (by omega); have d8 : 2 < (a1.length : Int) := zD; obtain ⟨l7, l8, b1⟩ := Kd.at_string (Kd.R_reads' a3.out).2.2 2 d7 d8; obtain rfl : a8 = l7 := (by injection l8); (try simp only [show (2 : Int).toNat = 2 from rfl, Nat.reduceMul, Nat.reduceEqDiff, Go.Addr.add, ↓reduceIte] at b1); have z8 : (2 < a1.length) = True := eq_true (by omega); (try rw [show ((2 : Int)).toNat = 2 from rfl] at b1); have e0 : a8.block ≠ b0 := Kd.own_blk (Kd.R_ne a3.out a2.out (by decide)); have e1 : a8.block ≠ b0 := Kd.own_blk (Kd.R_ne a3.out a2.out (by decide)); have e2 : a8.block ≠ b0 := Kd.own_blk (Kd.R_ne a3.out a2.out (by decide)); have e3 : a8.block ≠ b0 := Kd.own_blk (Kd.R_ne a3.out a2.out (by decide)); replace b1 := (cell_far (p := ⟨b0, 0, none⟩) (by first | (rw [add_block]; exact e0) | (show (Addr.add _ _).block ≠ _; rw [add_block]; exact e0) | exact e0) (.int .i64 b7)).trans b1; replace b1 := (cell_far (p := ⟨b0, 1, none⟩) (by first | (rw [add_block]; exact e1) | (show (Addr.add _ _).block ≠ _; rw [add_block]; exact e1) | exact e1) (.int .i64 b8)).trans b1; replace b1 := (cell_far (p := ⟨b0, 2, none⟩) (by first | (rw [add_block]; exact e2) | (show (Addr.add _ _).block ≠ _; rw [add_block]; exact e2) | exact e2) (.int .i64 b9)).trans b1; replace b1 := (cell_far (p := ⟨b0, 3, none⟩) (by first | (rw [add_block]; exact e3) | (show (Addr.add _ _).block ≠ _; rw [add_block]; exact e3) | exact e3) (.slice h0 b2.length h1)).trans b1; clear e0; clear e1; clear e2; clear e3; replace d7 := eq_true d7; replace d8 := eq_true d8) | ((with_reducible refine zq 128 ?_); refine zg (some 39) Tryz.func128 #[.string (rdOf ByteArray.empty a1 2)] ?_; (with_reducible refine (impl_ParseVer.calls h7 (rdOf ByteArray.empty a1 2) c0 c9 d0 b3 k2 _ ?s1 x3.out).mono ?_); (case s1 => exact GW.below HG.out (zW HB.out)); rintro e F1 ⟨z9, rfl, a7, hb⟩; refine ⟨_, rfl, ?_⟩; have b6 := zA (Kd.R_lower (Kd.R_new' (Kd.R_new' (Kd.R_newM (M := fun k_ => (w.heap.size ≤ k_)) a7 (below_size (zW HB.out)) (fun k_ h_ => h_)) (Kd.R_lt (zR (zr4 a3.out a2.out)))) (Kd.R_lt (zR (zr4 a9.out a2.out)))) (below_size (zW HB.out))); replace a3 := zA (Kd.R_elder' (zR (zr4 a3.out a2.out)) (Kd.R_base a7) hb); replace a9 := zA (Kd.R_elder' (zR (zr4 a9.out a2.out)) (Kd.R_base a7) hb); replace a2 := zA (blk_below (zk4 a2.out) hb); replace HB := zh HB hb; (try clear hb a7)) | ((with_reducible refine zd 7 ?_); refine ze 7 32 #[.int .i64 0, .int .i64 0, .int .i64 0, .slice none 0 0] ?_; intro b5 hg A9 hbox hb; replace a3 := zr a3 hb; replace a9 := zr a9 hb; replace b6 := zr b6 hb; have a6 := zA (hbox); have A1 := zi HB hg; have A4 := zi HB hg; replace HB := zh HB hb; have l9 := zA (zL hg (zK a2.out)); have m0 := zA (zJ hg (zK a2.out)); replace a2 := zb a2 hb; clear hb hbox hg; have F2 := m0.out; have F3 := l9.out; obtain ⟨p7, p8, p9, q0, q1, q2, q3, q4⟩ := ze4 a6.out; obtain ⟨h2, h3, B0⟩ := Kd.R_slice b6.out; subst B0) | ((with_reducible refine gate_store (t := 32) (p := 7) rfl ?_); refine store_event (t := 32) (p := 7) (v := ?vo_w42) (w1 := ((((A9.setCell ⟨b5, 0, none⟩ (.int .i64 c0)).setCell ⟨b5, 1, none⟩ (.int .i64 c9)).setCell ⟨b5, 2, none⟩ (.int .i64 d0)).setCell ⟨b5, 3, none⟩ (.slice h2 b3.length h3))) ?hg ?ho ?hn ?hr ?_; (case ho => rfl); (case hg => rfl); (case hn => rfl); (case hr => first | (go_simp; done) | (go_simp; rfl)); intro q5 hw; replace a3 : Aside0 (Kd.R Kd.string 9 q5 w.heap.size (fun k_ => (w.heap.size ≤ k_) ∧ some k_ ≠ (.slice h0 b2.length h1 : Value).ownBlock ∧ some k_ ≠ (.slice h2 b3.length h3 : Value).ownBlock) (.slice (some a8) a1.length f4) a1) := ⟨(by rw [hw]; exact (zR (Kd.R_mono (zr4 a3.out a6.out) (fun _ hk => ⟨hk.1.1, ⟨hk.1.2, hk.2⟩⟩))))⟩; replace a9 : Aside0 (Kd.R Kd.string 9 q5 w.heap.size (fun k_ => (w.heap.size ≤ k_) ∧ some k_ ≠ (.slice (some a8) a1.length f4 : Value).ownBlock ∧ some k_ ≠ (.slice h2 b3.length h3 : Value).ownBlock) (.slice h0 b2.length h1) b2) := ⟨(by rw [hw]; exact (zR (Kd.R_mono (zr4 a9.out a6.out) (fun _ hk => ⟨hk.1.1.1, ⟨hk.1.2, hk.2⟩⟩))))⟩; replace b6 : Aside0 (Kd.R Kd.string 9 q5 w.heap.size (fun k_ => (w.heap.size ≤ k_) ∧ some k_ ≠ (.slice (some a8) a1.length f4 : Value).ownBlock ∧ some k_ ≠ (.slice h0 b2.length h1 : Value).ownBlock) (.slice h2 b3.length h3) b3) := ⟨(by rw [hw]; exact (zR (Kd.R_mono (zr4 b6.out a6.out) (fun _ hk => ⟨hk.1.1.1, ⟨hk.1.2, hk.2⟩⟩))))⟩; replace a2 := zA (zh1 hw (zK a2.out)); replace a6 := zA (zh1 hw (zk4 a6.out)); replace HB := zA (zh2 hw (zW HB.out)); clear hw; obtain ⟨q7, q8, q9, r0, r3, r4, r5, r6⟩ := ze4 a2.out; obtain ⟨r7, r8, r9, t0, t1, t2, t3, t4⟩ := ze4 a6.out) | ((with_reducible refine gate_dst (N := 46) rfl ?_); refine zNl k75 75 46 (xs := ([(⟨4, (⟨b7, b8, b9, b2⟩ : S32)⟩ : S75), (⟨2, (⟨c0, c9, d0, b3⟩ : S32)⟩ : S75)] : List (S75))) (inner := [.int .i64 4, .int .i64 b7, .int .i64 b8, .int .i64 b9, .slice h0 b2.length h1, .int .i64 2, .int .i64 c0, .int .i64 c9, .int .i64 d0, .slice h2 b3.length h3]) (ok := (fun k_ => (w.heap.size ≤ k_) ∧ some k_ ≠ (.slice (some a8) a1.length f4 : Value).ownBlock ∧ k_ ≠ b0 ∧ k_ ≠ b5)) ((Reps.c5 (show Kd.FK k75 _ _ (⟨4, (⟨b7, b8, b9, b2⟩ : S32)⟩ : S75) [.int .i64 4, .int .i64 b7, .int .i64 b8, .int .i64 b9, .slice h0 b2.length h1] from (k75_mkF _ _ (⟨4, (⟨b7, b8, b9, b2⟩ : S32)⟩ : S75) (Kd.R_reads' (Kd.R_mono (ok' := (fun k_ => (w.heap.size ≤ k_) ∧ some k_ ≠ (.slice (some a8) a1.length f4 : Value).ownBlock ∧ k_ ≠ b0 ∧ k_ ≠ b5)) (Kd.R_types (Kd.R_types (a9.out) a2.out (by decide)) a6.out (by decide)) (fun k_ hk => ⟨hk.1.1.1, ⟨hk.1.1.2.1, ⟨hk.1.2, hk.2⟩⟩⟩))).2.1 (Kd.R_F (Kd.R_mono (ok' := (fun k_ => (w.heap.size ≤ k_) ∧ some k_ ≠ (.slice (some a8) a1.length f4 : Value).ownBlock ∧ k_ ≠ b0 ∧ k_ ≠ b5)) (Kd.R_types (Kd.R_types (a9.out) a2.out (by decide)) a6.out (by decide)) (fun k_ hk => ⟨hk.1.1.1, ⟨hk.1.1.2.1, ⟨hk.1.2, hk.2⟩⟩⟩))))) (Reps.c5 (show Kd.FK k75 _ _ (⟨2, (⟨c0, c9, d0, b3⟩ : S32)⟩ : S75) [.int .i64 2, .int .i64 c0, .int .i64 c9, .int .i64 d0, .slice h2 b3.length h3] from (k75_mkF _ _ (⟨2, (⟨c0, c9, d0, b3⟩ : S32)⟩ : S75) (Kd.R_reads' (Kd.R_mono (ok' := (fun k_ => (w.heap.size ≤ k_) ∧ some k_ ≠ (.slice (some a8) a1.length f4 : Value).ownBlock ∧ k_ ≠ b0 ∧ k_ ≠ b5)) (Kd.R_types (Kd.R_types (b6.out) a2.out (by decide)) a6.out (by decide)) (fun k_ hk => ⟨hk.1.1.1, ⟨hk.1.1.2.1, ⟨hk.1.2, hk.2⟩⟩⟩))).2.1 (Kd.R_F (Kd.R_mono (ok' := (fun k_ => (w.heap.size ≤ k_) ∧ some k_ ≠ (.slice (some a8) a1.length f4 : Value).ownBlock ∧ k_ ≠ b0 ∧ k_ ≠ b5)) (Kd.R_types (Kd.R_types (b6.out) a2.out (by decide)) a6.out (by decide)) (fun k_ hk => ⟨hk.1.1.1, ⟨hk.1.1.2.1, ⟨hk.1.2, hk.2⟩⟩⟩))))) (Reps.none _ _)))) (fun k_ hk => ⟨(Nat.le_trans (below_size (zW HB.out)) hk), Kd.fresh' (Kd.R_lt (zR a3.out)) k_ hk, Kd.freshB (zK a2.out) k_ hk, Kd.freshB (zK a6.out) k_ hk⟩) ?_; intro A6 F4 i2 hb hg_ hnew_; clear hg_ hnew_; (first | rw [← i9.out] at i2 | (simp only [Int.reduceToNat] at i2; rw [← i9.out] at i2)); replace a3 := zr a3 hb; have o6 := zA (Kd.N_lower i2 (below_size (zW HB.out))); replace a2 := zb a2 hb; replace a6 := zb a6 hb; replace HB := zh HB hb; clear a9 b6; clear hb i2))
      go_ret2
      exact ⟨_, zE, zNt (Kd.N_mono o6.out (fun _ hk => hk.1)), zW HB.out⟩
    ·have H' := zA H
     clear H
     go_wp2
     go_meet
     case rel => exact ⟨_, (by first | exact H' | (subst_vars; exact H')), ⟨by have := h6.out; first | omega | exact Nat.le_refl _⟩, ⟨zR a3.out⟩, ⟨zB⟩⟩
   case rest =>
    clear j8
    try clear c1
    try clear c2
    try clear p2
    try clear c3
    try clear c5
    try clear c6
    try clear d9
    try clear h5
    try clear p6
    try clear q6
    try clear hx6
    try clear qi6
    try clear c7
    try clear i7
    try clear i8
    try clear c8
    try clear c11
    try clear h8
    try clear h9
    try clear j9
    try clear i0
    try clear k0
    try clear k1
    try clear c16
    try clear c24
    try clear c39
    try clear k7 k8 k9 l2 l3 l4 l5 l6
    try clear m1 m2 m3 m4 m5 m6 m7 m8
    try clear n0 n1 n2 n3 n4 n5 n6 n7
    try clear n8 n9 o0 o1 o2 o3 o4 o5
    try clear o7 o8 o9 p0 p1 p3 p4 p5
    try clear p7 p8 p9 q0 q1 q2 q3 q4
    try clear q7 q8 q9 r0 r3 r4 r5 r6
    try clear r7 r8 r9 t0 t1 t2 t3 t4
    try clear g5
    try clear e9
    try clear b1
    try clear p2
    try clear p6
    try clear f8
    try clear d5
    try clear d7
    try clear q6
    try clear f9
    try clear d6
    try clear d8
    obtain ⟨kq, HA, j2, a3, HB⟩ := hcut
    cases kq with
    | zero => exact absurd HA.out (by simp [impl_listOf.j1])
    | succ x5 =>
     have H := HA.out
     clear HA
     simp only [impl_listOf.j1] at H
     have H' := zA H
     clear H
     obtain ⟨x6, f5, B1⟩ := Kd.R_slice a3.out
     subst B1
     go_wp2
     go_loopg [9, 53] x5 (fun kq v9 B2 w' => ∃ (a4 : List (S75)) (d1 : Int), B2 = .int .i64 d1 ∧ Aside0 (impl_listOf.l0 kq a4 a1 (a1.length : Int) d1 = some (r1, r2)) ∧ Aside0 (kq ≤ x5) ∧ Aside0 (Kd.N k75 75 w' w.heap.size (fun k_ => (w.heap.size ≤ k_) ∧ some k_ ≠ ((.slice x6 a1.length f5) : Value).ownBlock) v9 a4) ∧ Aside0 (Kd.R Kd.string 9 w' w.heap.size (fun k_ => (w.heap.size ≤ k_)) (.slice x6 a1.length f5) a1) ∧ Aside0 (Below w.heap.size w w'))
     case atStart => exact ⟨(([] : List (S75))), (0), zS, H', ⟨Nat.le_refl _⟩, ⟨by first | exact Kd.S_nil _ _ _ _ _ | exact Kd.N_nil _ _ _ _ _ | exact Kd.V_nil _ _ _ _ _ | exact Kd.Q_nil _ _ _ _ _ | exact Kd.R_nil _ _ _ _ _⟩, ⟨zR a3.out⟩, ⟨zB⟩⟩
     case round =>
      clear H'
      try clear c1
      try clear c2
      try clear p2
      try clear c3
      try clear c5
      try clear c6
      try clear d9
      try clear h5
      try clear p6
      try clear q6
      try clear hx6
      try clear qi6
      try clear c7
      try clear i7
      try clear i8
      try clear c8
      try clear c11
      try clear h8
      try clear h9
      try clear j9
      try clear i0
      try clear k0
      try clear k1
      try clear c16
      try clear c24
      try clear c39
      try clear k7 k8 k9 l2 l3 l4 l5 l6
      try clear m1 m2 m3 m4 m5 m6 m7 m8
      try clear n0 n1 n2 n3 n4 n5 n6 n7
      try clear n8 n9 o0 o1 o2 o3 o4 o5
      try clear o7 o8 o9 p0 p1 p3 p4 p5
      try clear p7 p8 p9 q0 q1 q2 q3 q4
      try clear q7 q8 q9 r0 r3 r4 r5 r6
      try clear r7 r8 r9 t0 t1 t2 t3 t4
      try clear g5
      try clear e9
      try clear b1
      try clear p2
      try clear p6
      try clear f8
      try clear d5
      try clear d7
      try clear q6
      try clear f9
      try clear d6
      try clear d8
      obtain ⟨a4, d1, rfl, HA, j3, b4, d4, HB⟩ := hrel
      cases gk with
      | zero => exact absurd HA.out (by simp [impl_listOf.l0])
      | succ k3 =>
       have H := HA.out
       clear HA
       simp only [impl_listOf.l0] at H
       replace H := zI0 H
       rcases H with ⟨x7, H⟩ | ⟨x7, H⟩
       ·replace H := zD0 H
        obtain ⟨B3, H⟩ := H
        replace H := zD0 H
        obtain ⟨B4, H⟩ := H
        replace H := Option.bind_eq_some_iff.mp H
        obtain ⟨⟨j4, F5⟩, x8, H⟩ := H
        try dsimp only at H
        have x9 := zA x8
        clear x8
        replace H := zB0 H
        rcases H with ⟨rfl, H⟩ | ⟨rfl, H⟩
        ·replace H := zC0 H
         obtain ⟨t5, H⟩ := H
         have B5 := zA t5
         clear t5
         obtain ⟨y0, t6⟩ : ∃ y_ : List (S75), y_ = (a4 ++ j4) := ⟨_, rfl⟩
         replace H : (impl_listOf.l0 k3 y0 a1 (a1.length : Int) (wrap64 (d1 + 1))) = some (r1, r2) := zY t6 H
         have B6 := zA t6
         clear t6
         have H' := zA H
         clear H
         have f6 : 0 ≤ (d1 : Int) := zD
         have f7 : d1 < (a1.length : Int) := zD
         obtain ⟨g0, t7, y1⟩ := Kd.at_string (Kd.R_reads' d4.out).2.2 d1 f6 f7
         cases t7
         replace f6 := eq_true f6
         replace f7 := eq_true f7
         go_wp2_with (first | ((with_reducible refine zq 129 ?_); refine zg (some 59) Tryz.func129 #[.string (rdOf ByteArray.empty a1 d1)] ?_; (with_reducible refine (impl_cmpsOf.calls k3 (rdOf ByteArray.empty a1 d1) j4 true _ ?s1 x9.out).mono ?_); (case s1 => exact GW.below HG.out (zB)); rintro e F6 ⟨B7, rfl, a7, hb⟩; refine ⟨_, rfl, ?_⟩; have i3 := zA (Kd.N_lower (Kd.N_mono (ok' := fun k_ => (w.heap.size ≤ k_) ∧ some k_ ≠ (u9 : Value).ownBlock ∧ some k_ ≠ (.slice (some g0) a1.length f5 : Value).ownBlock) a7 (fun k_ hk_ => ⟨(Nat.le_trans (below_size (zB)) hk_), (Kd.fresh' (Kd.N_lt (zN b4.out)) k_ hk_), (Kd.fresh' (Kd.R_lt (zR d4.out)) k_ hk_)⟩)) (below_size (zB))); replace b4 := zA (Kd.N_elder' (zN b4.out) (Kd.N_base a7) hb); replace d4 := zr d4 hb; replace HB := zA (below_step (zB) hb); (try clear hb a7); obtain ⟨F7, F8, B8⟩ := Kd.N_slice i3.out; subst B8) | ((with_reducible refine gate_builtin (b := .append) (xs := #[.tmp 64, .tmp 65]) rfl ?_); at_builtin; refine Kd.N_append_rows k75 (w0 := w) w.heap.size rfl (.tmp 64) (.tmp 65) 108 75 (.agg #[(.int .i64 0), (.int .i64 0), (.int .i64 0), (.int .i64 0), (.slice none 0 0)]) 56 rfl Tryz.underlying108 info75 rfl (by decide) (by omega) u9 a4 j4 _ _ _ (fun k_ => (w.heap.size ≤ k_) ∧ some k_ ≠ (.slice (some g0) a1.length f5 : Value).ownBlock) (fun k_ => ((fun k_ => (w.heap.size ≤ k_) ∧ some k_ ≠ (.slice (some g0) a1.length f5 : Value).ownBlock)) k_ ∧ some k_ ≠ (u9 : Value).ownBlock) rfl rfl ?aO ?aR (fun _ hk => hk) ?aF ?aB ?aS ?aL ?_; (case aR => exact (by skip; exact Kd.N_F (Kd.N_mono (ok' := (fun k_ => ((fun k_ => (w.heap.size ≤ k_) ∧ some k_ ≠ (.slice (some g0) a1.length f5 : Value).ownBlock)) k_ ∧ some k_ ≠ (u9 : Value).ownBlock)) (i3.out) (fun k_ hk => ⟨⟨hk.1, hk.2.2⟩, hk.2.1⟩)))); (case aB => exact (zB)); (case aF => exact (fun k_ hk => ⟨(Nat.le_trans (below_size (zB)) hk), Kd.fresh' (Kd.R_lt (zR d4.out)) k_ hk⟩)); (case aO => exact (zNt (Kd.N_mono b4.out (fun _ hk => ⟨hk.1.1, hk.1.2⟩)))); (case aS => exact (below_size (zB))); (case aL => have := B5.out; omega); intro F9 G0 ho hb hg hat; rw [← B6.out] at ho; replace d4 := zA (Kd.R_over' (zR d4.out) (Kd.N_typed (zN b4.out)) (by decide) hg); replace i3 := zA (Kd.N_afterv (ok := (fun k_ => (w.heap.size ≤ k_) ∧ some k_ ≠ (.slice (some g0) a1.length f5 : Value).ownBlock)) (zNt (Kd.N_mono i3.out (fun _ hk => ⟨⟨hk.1, hk.2.2⟩, hk.2.1⟩))) hg hat); replace HB := zA (hb); have B9 := zA (ho); clear b4; clear ho hb hg hat))
         go_roundg k3
         case measure => have := h6.out; have := j2.out; have := j3.out; omega
         case rel => exact ⟨(y0), (wrap64 (d1 + 1)), zS, H', ⟨by have := h6.out; have := j2.out; have := j3.out; omega⟩, ⟨zN B9.out⟩, ⟨zR d4.out⟩, ⟨zB⟩⟩
        ·simp only [zU] at H
         obtain ⟨rfl, rfl⟩ := H
         have f6 : 0 ≤ (d1 : Int) := zD
         have f7 : d1 < (a1.length : Int) := zD
         obtain ⟨g0, t7, y1⟩ := Kd.at_string (Kd.R_reads' d4.out).2.2 d1 f6 f7
         cases t7
         replace f6 := eq_true f6
         replace f7 := eq_true f7
         go_wp2_with (first | ((with_reducible refine zq 129 ?_); refine zg (some 59) Tryz.func129 #[.string (rdOf ByteArray.empty a1 d1)] ?_; (with_reducible refine (impl_cmpsOf.calls k3 (rdOf ByteArray.empty a1 d1) j4 false _ ?s1 x9.out).mono ?_); (case s1 => exact GW.below HG.out (zB)); rintro e G1 ⟨B7, rfl, a7, hb⟩; refine ⟨_, rfl, ?_⟩; have i3 := zA (Kd.N_lower (Kd.N_mono (ok' := fun k_ => (w.heap.size ≤ k_) ∧ some k_ ≠ (u9 : Value).ownBlock ∧ some k_ ≠ (.slice (some g0) a1.length f5 : Value).ownBlock) a7 (fun k_ hk_ => ⟨(Nat.le_trans (below_size (zB)) hk_), (Kd.fresh' (Kd.N_lt (zN b4.out)) k_ hk_), (Kd.fresh' (Kd.R_lt (zR d4.out)) k_ hk_)⟩)) (below_size (zB))); replace b4 := zA (Kd.N_elder' (zN b4.out) (Kd.N_base a7) hb); replace d4 := zr d4 hb; replace HB := zA (below_step (zB) hb); (try clear hb a7)))
         go_ret2
         exact ⟨_, zE, by first | exact Kd.S_nil _ _ _ _ _ | exact Kd.N_nil _ _ _ _ _ | exact Kd.V_nil _ _ _ _ _ | exact Kd.Q_nil _ _ _ _ _ | exact Kd.R_nil _ _ _ _ _, zB⟩
       ·have H' := zA H
        clear H
        obtain ⟨y2, y3, C0⟩ := Kd.N_slice b4.out
        subst C0
        go_wp2
        go_loopg [70] k3 (fun kq C1 w' => ∃ (a5 : Int), C1 = .int .i64 a5 ∧ Aside0 (impl_listOf.l1 kq a4 a4 (a4.length : Int) a5 = some (r1, r2)) ∧ Aside0 (kq ≤ k3) ∧ Aside0 (Kd.N k75 75 w' w.heap.size (fun k_ => (w.heap.size ≤ k_)) (.slice y2 a4.length y3) a4) ∧ Aside0 (Kd.N k75 75 w' w.heap.size (fun k_ => (w.heap.size ≤ k_)) (.slice y2 a4.length y3) a4) ∧ Aside0 (Below w.heap.size w w'))
        case atStart => exact ⟨(0), zS, H', ⟨Nat.le_refl _⟩, ⟨zNt (Kd.N_mono b4.out (fun _ hk => hk.1))⟩, ⟨zNt (Kd.N_mono b4.out (fun _ hk => hk.1))⟩, ⟨zB⟩⟩
        case round =>
         clear H'
         try clear c1
         try clear c2
         try clear p2
         try clear c3
         try clear c4
         try clear c5
         try clear c6
         try clear d9
         try clear h5
         try clear p6
         try clear q6
         try clear hx6
         try clear qi6
         try clear c7
         try clear i7
         try clear i8
         try clear c8
         try clear c11
         try clear h8
         try clear h9
         try clear j9
         try clear i0
         try clear k0
         try clear k1
         try clear c16
         try clear c24
         try clear c39
         try clear c48
         try clear x7
         try clear c49
         try clear B3
         try clear c50
         try clear B4
         try clear c52
         try clear t5
         try clear k7 k8 k9 l2 l3 l4 l5 l6
         try clear m1 m2 m3 m4 m5 m6 m7 m8
         try clear n0 n1 n2 n3 n4 n5 n6 n7
         try clear n8 n9 o0 o1 o2 o3 o4 o5
         try clear o7 o8 o9 p0 p1 p3 p4 p5
         try clear p7 p8 p9 q0 q1 q2 q3 q4
         try clear q7 q8 q9 r0 r3 r4 r5 r6
         try clear r7 r8 r9 t0 t1 t2 t3 t4
         try clear g5
         try clear e9
         try clear b1
         try clear y1
         try clear p2
         try clear p6
         try clear f8
         try clear d5
         try clear d7
         try clear f6
         try clear q6
         try clear f9
         try clear d6
         try clear d8
         try clear f7
         obtain ⟨a5, rfl, HA, y4, b4, d2, HB⟩ := hrel
         cases gk with
         | zero => exact absurd HA.out (by simp [impl_listOf.l1])
         | succ k4 =>
          have H := HA.out
          clear HA
          simp only [impl_listOf.l1] at H
          replace H := zI0 H
          rcases H with ⟨C2, H⟩ | ⟨C2, H⟩
          ·replace H := zD0 H
           obtain ⟨G2, H⟩ := H
           replace H := zD0 H
           obtain ⟨G3, H⟩ := H
           replace H := Option.bind_eq_some_iff.mp H
           obtain ⟨G4, y5, H⟩ := H
           try dsimp only at H
           have y6 := zA y5
           clear y5
           replace H := zB0 H
           rcases H with ⟨rfl, H⟩ | ⟨rfl, H⟩
           ·have H' := zA H
            clear H
            have e4 : 0 ≤ (a5 : Int) := zD
            have e5 : a5 < (a4.length : Int) := zD
            obtain ⟨C3, t8, t9, v0, C4, C5, C6, C7, v1, i4, i5⟩ := at_T75 (Kd.N_reads' d2.out).2.2 a5 e4 e5
            cases v0
            obtain ⟨C8, v2, v3, i6⟩ := Kd.N_get d2.out z75 a5 e4 (by first | exact e5 | exact zD | (have e_ := (Kd.N_reads' d2.out).1; omega))
            obtain ⟨C9, D0, rfl, g1, g2⟩ := k75_openF v3
            have e6 := i6 4 _ rfl
            rw [add_field _ _ 4 (by omega)] at e6
            replace e6 := Option.some.inj (e6.symm.trans v1)
            injection e6 with hva_ hvn_ hvc_
            rw [hva_] at g2
            rw [hvc_] at g1
            have d3 := zA (show Kd.V Kd.string 9 _ w.heap.size _ _ ((rd_T75 a4 a5).f1.f3) from Kd.V_mk g1 g2)
            clear hva_ hvn_ hvc_ g2 g1
            clear i6 v2
            have e7 := zA i5
            have v4 := zA i4
            clear i5 i4
            replace e4 := eq_true e4
            replace e5 := eq_true e5
            go_wp2_with (first | ((with_reducible refine zd 15 ?_); refine ze 15 75 #[.int .i64 0, .int .i64 0, .int .i64 0, .int .i64 0, .slice none 0 0] ?_; intro g3 hg G5 hbox hb; replace b4 := zA (Kd.N_below (Kd.N_elderB (zN b4.out) g3 (Nat.le_of_eq hg.symm)) hb); replace d2 := zA (Kd.N_below (Kd.N_elderB (zN d2.out) g3 (Nat.le_of_eq hg.symm)) hb); replace d3 := zA (Kd.V_below (Kd.V_elderB (zV d3.out) g3 (Nat.le_of_eq hg.symm)) hb); replace e7 := zA (Kd.C_below (by repeat (first | (with_reducible exact e7.out) | (with_reducible refine Kd.C_alloc ?_ _) | (with_reducible refine Kd.C_drewN ?_ _) | (with_reducible refine Kd.C_drew ?_) | exact e7.out)) hb); have g4 := zA (hbox); have D1 := zi HB hg; have D2 := zi HB hg; replace HB := zA (below_step (zB) hb); clear hb hbox hg; obtain ⟨G6, G7, G8, G9, I0, I1, I2, I3, I4, I5⟩ := ze5 g4.out) | ((with_reducible refine zq 71 ?_); refine zg (some 76) Tryz.func71 #[.agg #[.int .i64 ((rd_T75 a4 a5).f1.f0), .int .i64 ((rd_T75 a4 a5).f1.f1), .int .i64 ((rd_T75 a4 a5).f1.f2), .slice t8 ((rd_T75 a4 a5).f1.f3).length t9]] ?_; (with_reducible refine (impl_VerOk.calls k4 ((rd_T75 a4 a5).f1.f0) ((rd_T75 a4 a5).f1.f1) ((rd_T75 a4 a5).f1.f2) _ _ ((rd_T75 a4 a5).f1.f3) true _ ?s1 ?s2 y6.out).mono ?_); (case s1 => repeat (first | exact ((Kd.V_reads' (zVt (zv5 d3.out (fun _ hk => hk.2)))).2.2) | (with_reducible refine Kd.C_alloc ?_ _) | (with_reducible refine Kd.C_drewN ?_ _) | (with_reducible refine Kd.C_drew ?_))); (case s2 => exact v4.out); rintro e I6 ⟨rfl, hb⟩; refine ⟨_, rfl, ?_⟩; replace b4 := zA (Kd.N_below (zNt (zn5 b4.out (fun _ hk => hk.2))) hb); replace d2 := zA (Kd.N_below (zNt (zn5 d2.out (fun _ hk => hk.2))) hb); replace e7 := zA (Kd.C_below ((Kd.V_reads' (zVt (zv5 d3.out (fun _ hk => hk.2)))).2.2) hb); replace d3 := zA (Kd.V_below (zVt (zv5 d3.out (fun _ hk => hk.2))) hb); replace g4 := zA (blk_below (zk5 g4.out) hb); replace HB := zh HB hb; (try clear hb)))
            go_roundg k4
            case measure => have := h6.out; have := j2.out; have := j3.out; have := y4.out; omega
            case rel => exact ⟨(wrap64 (a5 + 1)), zS, H', ⟨by have := h6.out; have := j2.out; have := j3.out; have := y4.out; omega⟩, ⟨zNt (Kd.N_mono b4.out (fun _ hk => hk.1))⟩, ⟨zNt (Kd.N_mono d2.out (fun _ hk => hk.1))⟩, ⟨zW HB.out⟩⟩
           ·simp only [zU] at H
            obtain ⟨rfl, rfl⟩ := H
            have e4 : 0 ≤ (a5 : Int) := zD
            have e5 : a5 < (a4.length : Int) := zD
            obtain ⟨C3, t8, t9, v0, C4, C5, C6, C7, v1, i4, i5⟩ := at_T75 (Kd.N_reads' d2.out).2.2 a5 e4 e5
            cases v0
            obtain ⟨C8, v2, v3, i6⟩ := Kd.N_get d2.out z75 a5 e4 (by first | exact e5 | exact zD | (have e_ := (Kd.N_reads' d2.out).1; omega))
            obtain ⟨C9, D0, rfl, g1, g2⟩ := k75_openF v3
            have e6 := i6 4 _ rfl
            rw [add_field _ _ 4 (by omega)] at e6
            replace e6 := Option.some.inj (e6.symm.trans v1)
            injection e6 with hva_ hvn_ hvc_
            rw [hva_] at g2
            rw [hvc_] at g1
            have d3 := zA (show Kd.V Kd.string 9 _ w.heap.size _ _ ((rd_T75 a4 a5).f1.f3) from Kd.V_mk g1 g2)
            clear hva_ hvn_ hvc_ g2 g1
            clear i6 v2
            have e7 := zA i5
            have v4 := zA i4
            clear i5 i4
            replace e4 := eq_true e4
            replace e5 := eq_true e5
            go_wp2_with (first | ((with_reducible refine zd 15 ?_); refine ze 15 75 #[.int .i64 0, .int .i64 0, .int .i64 0, .int .i64 0, .slice none 0 0] ?_; intro g3 hg I7 hbox hb; replace b4 := zA (Kd.N_below (Kd.N_elderB (zN b4.out) g3 (Nat.le_of_eq hg.symm)) hb); replace d2 := zA (Kd.N_below (Kd.N_elderB (zN d2.out) g3 (Nat.le_of_eq hg.symm)) hb); replace d3 := zA (Kd.V_below (Kd.V_elderB (zV d3.out) g3 (Nat.le_of_eq hg.symm)) hb); replace e7 := zA (Kd.C_below (by repeat (first | (with_reducible exact e7.out) | (with_reducible refine Kd.C_alloc ?_ _) | (with_reducible refine Kd.C_drewN ?_ _) | (with_reducible refine Kd.C_drew ?_) | exact e7.out)) hb); have g4 := zA (hbox); have D1 := zi HB hg; have D2 := zi HB hg; replace HB := zA (below_step (zB) hb); clear hb hbox hg; obtain ⟨I8, I9, J0, J1, J2, J3, J4, J5, J6, J7⟩ := ze5 g4.out) | ((with_reducible refine zq 71 ?_); refine zg (some 76) Tryz.func71 #[.agg #[.int .i64 ((rd_T75 a4 a5).f1.f0), .int .i64 ((rd_T75 a4 a5).f1.f1), .int .i64 ((rd_T75 a4 a5).f1.f2), .slice t8 ((rd_T75 a4 a5).f1.f3).length t9]] ?_; (with_reducible refine (impl_VerOk.calls k4 ((rd_T75 a4 a5).f1.f0) ((rd_T75 a4 a5).f1.f1) ((rd_T75 a4 a5).f1.f2) _ _ ((rd_T75 a4 a5).f1.f3) false _ ?s1 ?s2 y6.out).mono ?_); (case s1 => repeat (first | exact ((Kd.V_reads' (zVt (zv5 d3.out (fun _ hk => hk.2)))).2.2) | (with_reducible refine Kd.C_alloc ?_ _) | (with_reducible refine Kd.C_drewN ?_ _) | (with_reducible refine Kd.C_drew ?_))); (case s2 => exact v4.out); rintro e J8 ⟨rfl, hb⟩; refine ⟨_, rfl, ?_⟩; replace b4 := zA (Kd.N_below (zNt (zn5 b4.out (fun _ hk => hk.2))) hb); replace d2 := zA (Kd.N_below (zNt (zn5 d2.out (fun _ hk => hk.2))) hb); replace e7 := zA (Kd.C_below ((Kd.V_reads' (zVt (zv5 d3.out (fun _ hk => hk.2)))).2.2) hb); replace d3 := zA (Kd.V_below (zVt (zv5 d3.out (fun _ hk => hk.2))) hb); replace g4 := zA (blk_below (zk5 g4.out) hb); replace HB := zh HB hb; (try clear hb)))
            go_ret2
            exact ⟨_, zE, by first | exact Kd.S_nil _ _ _ _ _ | exact Kd.N_nil _ _ _ _ _ | exact Kd.V_nil _ _ _ _ _ | exact Kd.Q_nil _ _ _ _ _ | exact Kd.R_nil _ _ _ _ _, zW HB.out⟩
          ·simp only [zU] at H
           obtain ⟨rfl, rfl⟩ := H
           go_wp2
           go_ret2
           exact ⟨_, zE, zN b4.out, zB⟩
/-! ### impl_ParseRange: function 32 -/
mutual
def impl_ParseRange.j0 : Nat → List ByteArray → Option ((List (List (S75))) × Bool)
 | 0, _ => none
 | k + 1, x4 => impl_ParseRange.l0 k ([] : List (List (S75))) x4 (x4.length : Int) 0
def impl_ParseRange.l0 : Nat → List (List (S75)) → List ByteArray → Int → Int → Option ((List (List (S75))) × Bool)
 | 0, _, _, _, _ => none
 | k + 1, x5, a1, a2, a0 => if a0 < a2 then (if 0 ≤ a0 then (if a0 < (a1.length : Int) then ((impl_listOf.f k (rdOf ByteArray.empty a1 a0)).bind fun a3 => (if a3.2 = true then (if x5.length < 5864062014805 then (impl_ParseRange.l0 k (x5 ++ [a3.1]) a1 a2 (wrap64 (a0 + 1))) else (none)) else (some (([] : List (List (S75))), false)))) else (none)) else (none)) else (some (x5, true))
end
def impl_ParseRange.f (k : Nat) (a0 : ByteArray) : Option ((List (List (S75))) × Bool) := (strings_Split.f a0 (⟨#[124, 124]⟩ : ByteArray)).bind fun a1 => (if (a1.length : Int) > 4 then (some (([] : List (List (S75))), false)) else (impl_ParseRange.j0 k a1))
theorem impl_ParseRange.calls (k : Nat) (a0 : ByteArray) (r1 : List (List (S75))) (r2 : Bool) (w : World) (hG : GW w) (h : impl_ParseRange.f k a0 = some (r1, r2)) :
  Calls Tryz.prog 32 #[.string a0] w fun e w' => ∃ b9 : Value, e = .returned (.tuple #[b9, .bool r2]) ∧ Kd.N (Kd.slice 75 k75) 108 w' w.heap.size (fun k_ => (w.heap.size ≤ k_)) b9 r1 ∧ Below w.heap.size w w' := by
 have HG := zA hG
 clear hG
 have HB := zA (Below.refl w.heap.size w)
 unfold impl_ParseRange.f at h
 have H := h
 clear h
 replace H := Option.bind_eq_some_iff.mp H
 obtain ⟨a1, c0, H⟩ := H
 try dsimp only at H
 have A2 := zA c0
 clear c0
 have b4 := zA H
 clear H
 go_enter Tryz.func32, Tryz.ntmps32
 go_upto_if 14 with (first | ((with_reducible refine zq 81 ?_); refine zg (some 11) Tryz.func81 #[.string a0, .string (⟨#[124, 124]⟩ : ByteArray)] ?_; (with_reducible refine (strings_Split.calls a0 (⟨#[124, 124]⟩ : ByteArray) a1 _ ?s1 A2.out).mono ?_); (case s1 => exact GW.below HG.out (zB)); rintro e w4 ⟨e3, rfl, a4, hb⟩; refine ⟨_, rfl, ?_⟩; have c1 := zA (Kd.R_lower (Kd.R_newM (M := fun k_ => (w.heap.size ≤ k_)) a4 (below_size (zB)) (fun k_ h_ => h_)) (below_size (zB))); replace HB := zA (below_step (zB) hb); (try clear hb a4); obtain ⟨b5, a6, d1⟩ := Kd.R_slice c1.out; subst d1))
 (try simp only [Act.put, zT])
 go_cut [] (fun wc => ∃ (kq : Nat), Aside0 (impl_ParseRange.j0 kq a1 = some (r1, r2)) ∧ Aside0 (kq ≤ k) ∧ Aside0 (Kd.R Kd.string 9 wc w.heap.size (fun k_ => (w.heap.size ≤ k_)) (.slice b5 a1.length a6) a1) ∧ Aside0 (Below w.heap.size w wc))
 case first =>
  have H := b4.out
  clear b4
  replace H := zI1 H
  rcases H with ⟨c6, H⟩ | ⟨c6, H⟩
  ·have a7 : decide (4 < (a1.length : Int)) = true := decide_eq_true c6
   have b6 : decide (4 < a1.length) = true := decide_eq_true (by omega)
   clear c6
   (first | rw [a7] | (simp only [i64_w, i32_w]; rw [a7]) | skip)
   simp only [zU] at H
   obtain ⟨rfl, rfl⟩ := H
   go_wp2
   go_ret2
   exact ⟨_, zE, by first | exact Kd.R_nil _ _ _ _ _ | exact Kd.N_nil _ _ _ _ _ | exact Kd.V_nil _ _ _ _ _ | exact Kd.Q_nil _ _ _ _ _ | exact Kd.S_nil _ _ _ _ _, zB⟩
  ·have a7 : decide (4 < (a1.length : Int)) = false := decide_eq_false c6
   have b6 : decide (4 < a1.length) = false := decide_eq_false (by omega)
   clear c6
   (first | rw [a7] | (simp only [i64_w, i32_w]; rw [a7]) | skip)
   have H' := zA H
   clear H
   go_wp2
   go_meet
   case rel => exact ⟨_, (by first | exact H' | (subst_vars; exact H')), ⟨by first | omega | exact Nat.le_refl _⟩, ⟨zR (Kd.R_mono c1.out (fun _ hk => hk.1))⟩, ⟨zB⟩⟩
 case rest =>
  clear b4
  try clear p2
  try clear c3
  try clear c6
  try clear a7
  try clear b6
  obtain ⟨kq, HA, c2, d2, HB⟩ := hcut
  cases kq with
  | zero => exact absurd HA.out (by simp [impl_ParseRange.j0])
  | succ c4 =>
   have H := HA.out
   clear HA
   simp only [impl_ParseRange.j0] at H
   have H' := zA H
   clear H
   go_wp2
   go_loopg [5, 17] c4 (fun kq v5 d3 w' => ∃ (b1 : List (List (S75))) (a2 : Int), d3 = .int .i64 a2 ∧ Aside0 (impl_ParseRange.l0 kq b1 a1 (a1.length : Int) a2 = some (r1, r2)) ∧ Aside0 (kq ≤ c4) ∧ Aside0 (Kd.N (Kd.slice 75 k75) 108 w' w.heap.size (fun k_ => (w.heap.size ≤ k_) ∧ some k_ ≠ ((.slice b5 a1.length a6) : Value).ownBlock) v5 b1) ∧ Aside0 (Kd.R Kd.string 9 w' w.heap.size (fun k_ => (w.heap.size ≤ k_)) (.slice b5 a1.length a6) a1) ∧ Aside0 (Below w.heap.size w w'))
   case atStart => exact ⟨(([] : List (List (S75)))), (0), zS, H', ⟨Nat.le_refl _⟩, ⟨by first | exact Kd.R_nil _ _ _ _ _ | exact Kd.N_nil _ _ _ _ _ | exact Kd.V_nil _ _ _ _ _ | exact Kd.Q_nil _ _ _ _ _ | exact Kd.S_nil _ _ _ _ _⟩, ⟨zR d2.out⟩, ⟨zB⟩⟩
   case round =>
    clear H'
    try clear p2
    try clear c3
    try clear c6
    try clear a7
    try clear b6
    try clear p2
    obtain ⟨b1, a2, rfl, HA, c5, a5, a3, HB⟩ := hrel
    cases gk with
    | zero => exact absurd HA.out (by simp [impl_ParseRange.l0])
    | succ k2 =>
     have H := HA.out
     clear HA
     simp only [impl_ParseRange.l0] at H
     replace H := zI0 H
     rcases H with ⟨d4, H⟩ | ⟨d4, H⟩
     ·replace H := zD0 H
      obtain ⟨e4, H⟩ := H
      replace H := zD0 H
      obtain ⟨e5, H⟩ := H
      replace H := Option.bind_eq_some_iff.mp H
      obtain ⟨⟨b2, e6⟩, c7, H⟩ := H
      try dsimp only at H
      have c8 := zA c7
      clear c7
      replace H := zB0 H
      rcases H with ⟨rfl, H⟩ | ⟨rfl, H⟩
      ·replace H := zC0 H
       obtain ⟨c9, H⟩ := H
       have d5 := zA c9
       clear c9
       obtain ⟨d0, b7⟩ : ∃ y_ : List (List (S75)), y_ = (b1 ++ [b2]) := ⟨_, rfl⟩
       replace H : (impl_ParseRange.l0 k2 d0 a1 (a1.length : Int) (wrap64 (a2 + 1))) = some (r1, r2) := zY b7 H
       have d6 := zA b7
       clear b7
       have H' := zA H
       clear H
       have a8 : 0 ≤ (a2 : Int) := zD
       have a9 : a2 < (a1.length : Int) := zD
       obtain ⟨b0, b8, d7⟩ := Kd.at_string (Kd.R_reads' a3.out).2.2 a2 a8 a9
       cases b8
       replace a8 := eq_true a8
       replace a9 := eq_true a9
       go_wp2_with (first | ((with_reducible refine zq 82 ?_); refine zg (some 23) Tryz.func82 #[.string (rdOf ByteArray.empty a1 a2)] ?_; (with_reducible refine (impl_listOf.calls k2 (rdOf ByteArray.empty a1 a2) b2 true _ ?s1 c8.out).mono ?_); (case s1 => exact GW.below HG.out (zB)); rintro e e7 ⟨d8, rfl, a4, hb⟩; refine ⟨_, rfl, ?_⟩; have b3 := zA (Kd.N_lower (Kd.N_mono (ok' := fun k_ => (w.heap.size ≤ k_) ∧ some k_ ≠ (u5 : Value).ownBlock ∧ some k_ ≠ (.slice (some b0) a1.length a6 : Value).ownBlock) a4 (fun k_ hk_ => ⟨(Nat.le_trans (below_size (zB)) hk_), (Kd.fresh' (Kd.N_lt (zN a5.out)) k_ hk_), (Kd.fresh' (Kd.R_lt (zR a3.out)) k_ hk_)⟩)) (below_size (zB))); replace a5 := zA (Kd.N_elder' (zN a5.out) (Kd.N_base a4) hb); replace a3 := zr a3 hb; replace HB := zA (below_step (zB) hb); (try clear hb a4); obtain ⟨d9, e0, e1⟩ := Kd.N_slice b3.out; subst e1) | ((with_reducible refine gate_builtin (b := .append) (xs := #[.tmp 28, .tmp 30]) rfl ?_); at_builtin; refine Kd.N_append (Kd.slice 75 k75) (w0 := w) w.heap.size rfl (.tmp 28) (.tmp 30) 63 108 (.slice none 0 0) 24 rfl Tryz.underlying63 info108 rfl (by decide) (by omega) u5 b1 b2 [.slice d9 b2.length e0] (fun k_ => (w.heap.size ≤ k_) ∧ some k_ ≠ (.slice (some b0) a1.length a6 : Value).ownBlock) (fun k_ => ((fun k_ => (w.heap.size ≤ k_) ∧ some k_ ≠ (.slice (some b0) a1.length a6 : Value).ownBlock)) k_ ∧ some k_ ≠ (u5 : Value).ownBlock) rfl rfl ?aP (fun _ hk => hk) ?aF ?aO ?aB ?aS ?aL ?_; (case aP => exact (Kd.FK_slice_mk (Kd.N_reads' (Kd.N_mono (ok' := (fun k_ => ((fun k_ => (w.heap.size ≤ k_) ∧ some k_ ≠ (.slice (some b0) a1.length a6 : Value).ownBlock)) k_ ∧ some k_ ≠ (u5 : Value).ownBlock)) (b3.out) (fun k_ hk => ⟨⟨hk.1, hk.2.2⟩, hk.2.1⟩))).2.1 (Kd.N_F (Kd.N_mono (ok' := (fun k_ => ((fun k_ => (w.heap.size ≤ k_) ∧ some k_ ≠ (.slice (some b0) a1.length a6 : Value).ownBlock)) k_ ∧ some k_ ≠ (u5 : Value).ownBlock)) (b3.out) (fun k_ hk => ⟨⟨hk.1, hk.2.2⟩, hk.2.1⟩))))); (case aB => exact (zB)); (case aF => exact (fun k_ hk => ⟨(Nat.le_trans (below_size (zB)) hk), Kd.fresh' (Kd.R_lt (zR a3.out)) k_ hk⟩)); (case aO => exact (zNt (Kd.N_mono a5.out (fun _ hk => ⟨hk.1.1, hk.1.2⟩)))); (case aS => exact (below_size (zB))); (case aL => have := d5.out; omega); intro e8 e9 ho hb hg hat; rw [← d6.out] at ho; replace a3 := zA (Kd.R_over' (zR a3.out) (Kd.N_typed (zN a5.out)) (by decide) hg); replace HB := zA (hb); have e2 := zA (ho); clear a5 b3; clear ho hb hg hat))
       go_roundg k2
       case measure => have := c2.out; have := c5.out; omega
       case rel => exact ⟨(d0), (wrap64 (a2 + 1)), zS, H', ⟨by have := c2.out; have := c5.out; omega⟩, ⟨zN e2.out⟩, ⟨zR a3.out⟩, ⟨zB⟩⟩
      ·simp only [zU] at H
       obtain ⟨rfl, rfl⟩ := H
       have a8 : 0 ≤ (a2 : Int) := zD
       have a9 : a2 < (a1.length : Int) := zD
       obtain ⟨b0, b8, d7⟩ := Kd.at_string (Kd.R_reads' a3.out).2.2 a2 a8 a9
       cases b8
       replace a8 := eq_true a8
       replace a9 := eq_true a9
       go_wp2_with (first | ((with_reducible refine zq 82 ?_); refine zg (some 23) Tryz.func82 #[.string (rdOf ByteArray.empty a1 a2)] ?_; (with_reducible refine (impl_listOf.calls k2 (rdOf ByteArray.empty a1 a2) b2 false _ ?s1 c8.out).mono ?_); (case s1 => exact GW.below HG.out (zB)); rintro e f0 ⟨d8, rfl, a4, hb⟩; refine ⟨_, rfl, ?_⟩; have b3 := zA (Kd.N_lower (Kd.N_mono (ok' := fun k_ => (w.heap.size ≤ k_) ∧ some k_ ≠ (u5 : Value).ownBlock ∧ some k_ ≠ (.slice (some b0) a1.length a6 : Value).ownBlock) a4 (fun k_ hk_ => ⟨(Nat.le_trans (below_size (zB)) hk_), (Kd.fresh' (Kd.N_lt (zN a5.out)) k_ hk_), (Kd.fresh' (Kd.R_lt (zR a3.out)) k_ hk_)⟩)) (below_size (zB))); replace a5 := zA (Kd.N_elder' (zN a5.out) (Kd.N_base a4) hb); replace a3 := zr a3 hb; replace HB := zA (below_step (zB) hb); (try clear hb a4)))
       go_ret2
       exact ⟨_, zE, by first | exact Kd.R_nil _ _ _ _ _ | exact Kd.N_nil _ _ _ _ _ | exact Kd.V_nil _ _ _ _ _ | exact Kd.Q_nil _ _ _ _ _ | exact Kd.S_nil _ _ _ _ _, zB⟩
     ·simp only [zU] at H
      obtain ⟨rfl, rfl⟩ := H
      go_wp2
      go_ret2
      exact ⟨_, zE, zNt (Kd.N_mono a5.out (fun _ hk => hk.1)), zB⟩
/-! ### impl_needOk: function 116 -/
def impl_needOk.f (k : Nat) (a1 a0 : ByteArray) : Option (Bool) := (impl_ParseRange.f k a0).bind fun a2 => (if a2.2 = true then ((impl_NameOk.f k a1).bind fun a3 => (if a3 = true then (some (decide ((a0.size : Int) ≤ 20))) else (some false))) else (some false))
theorem impl_needOk.calls (k : Nat) (a3 a1 : ByteArray) (r : Bool) (w : World) (hG : GW w) (h : impl_needOk.f k a3 a1 = some r) :
  Calls Tryz.prog 116 #[.agg #[.string a3, .string a1]] w fun e w' => e = .returned (.bool r) ∧ Below w.heap.size w w' := by
 have b2 := Tryz.underlying30
 have HG := zA hG
 clear hG
 have HB := zA (Below.refl w.heap.size w)
 unfold impl_needOk.f at h
 have H := h
 clear h
 replace H := Option.bind_eq_some_iff.mp H
 obtain ⟨⟨a5, b3⟩, a6, H⟩ := H
 try dsimp only at H
 have A2 := zA a6
 clear a6
 replace H := zB0 H
 rcases H with ⟨rfl, H⟩ | ⟨rfl, H⟩
 ·replace H := Option.bind_eq_some_iff.mp H
  obtain ⟨b4, a7, H⟩ := H
  try dsimp only at H
  have A4 := zA a7
  clear a7
  replace H := zB0 H
  rcases H with ⟨rfl, H⟩ | ⟨rfl, H⟩
  ·obtain rfl := zm H
   go_enter Tryz.func116, Tryz.ntmps116
   go_wp2_with (first | ((with_reducible refine gate_dst (N := 1) rfl ?_); (try (refine gate_guard (by rfl) ?_; dsimp only)); refine box_event ?hg (N := 1) ?hd (cs := #[.string a3, .string a1]) (t := 30) ?hr ?_; (case hd => rfl); (case hg => rfl); (case hr => first | (go_simp; done) | (go_simp; rfl)); intro a4 hg w6 hbox hb; have a0 := zA (hbox); have a8 := zi HB hg; have a9 := zi HB hg; replace HB := zA (below_step (zB) hb); clear hb hbox hg; obtain ⟨b5, b6, b7, b8⟩ := ze2 a0.out) | ((with_reducible refine zq 32 ?_); refine zg (some 8) Tryz.func32 #[.string a1] ?_; (with_reducible refine (impl_ParseRange.calls k a1 a5 true _ ?s1 A2.out).mono ?_); (case s1 => exact GW.below HG.out (zW HB.out)); rintro e w8 ⟨b0, rfl, a2, hb⟩; refine ⟨_, rfl, ?_⟩; have b1 := zA (Kd.N_lower (Kd.N_mono (ok' := fun k_ => k_ ≠ a4) a2 (fun k_ hk_ => (Kd.freshB (zK a0.out) k_ hk_))) (below_size (zW HB.out))); replace a0 := zb a0 hb; replace HB := zh HB hb; (try clear hb a2); obtain ⟨b9, c0, c1, c2⟩ := ze2 a0.out) | (go_at_call 61; (with_reducible refine (impl_NameOk.calls k a3 true _ A4.out).mono ?_); rintro e w' ⟨rfl, ⟨nd, rfl⟩⟩))
   go_ret
   exact ⟨zE, zW HB.out⟩
  ·obtain rfl := zm H
   go_enter Tryz.func116, Tryz.ntmps116
   go_wp2_with (first | ((with_reducible refine gate_dst (N := 1) rfl ?_); (try (refine gate_guard (by rfl) ?_; dsimp only)); refine box_event ?hg (N := 1) ?hd (cs := #[.string a3, .string a1]) (t := 30) ?hr ?_; (case hd => rfl); (case hg => rfl); (case hr => first | (go_simp; done) | (go_simp; rfl)); intro a4 hg c3 hbox hb; have a0 := zA (hbox); have a8 := zi HB hg; have a9 := zi HB hg; replace HB := zA (below_step (zB) hb); clear hb hbox hg; obtain ⟨c4, c5, c6, c7⟩ := ze2 a0.out) | ((with_reducible refine zq 32 ?_); refine zg (some 8) Tryz.func32 #[.string a1] ?_; (with_reducible refine (impl_ParseRange.calls k a1 a5 true _ ?s1 A2.out).mono ?_); (case s1 => exact GW.below HG.out (zW HB.out)); rintro e c8 ⟨b0, rfl, a2, hb⟩; refine ⟨_, rfl, ?_⟩; have b1 := zA (Kd.N_lower (Kd.N_mono (ok' := fun k_ => k_ ≠ a4) a2 (fun k_ hk_ => (Kd.freshB (zK a0.out) k_ hk_))) (below_size (zW HB.out))); replace a0 := zb a0 hb; replace HB := zh HB hb; (try clear hb a2); obtain ⟨c9, d0, d1, d2⟩ := ze2 a0.out) | (go_at_call 61; (with_reducible refine (impl_NameOk.calls k a3 false _ A4.out).mono ?_); rintro e w' ⟨rfl, ⟨nd, rfl⟩⟩))
   go_ret
   exact ⟨zE, zW HB.out⟩
 ·obtain rfl := zm H
  go_enter Tryz.func116, Tryz.ntmps116
  go_wp2_with (first | ((with_reducible refine gate_dst (N := 1) rfl ?_); (try (refine gate_guard (by rfl) ?_; dsimp only)); refine box_event ?hg (N := 1) ?hd (cs := #[.string a3, .string a1]) (t := 30) ?hr ?_; (case hd => rfl); (case hg => rfl); (case hr => first | (go_simp; done) | (go_simp; rfl)); intro a4 hg d3 hbox hb; have a0 := zA (hbox); have a8 := zi HB hg; have a9 := zi HB hg; replace HB := zA (below_step (zB) hb); clear hb hbox hg; obtain ⟨d4, d5, d6, d7⟩ := ze2 a0.out) | ((with_reducible refine zq 32 ?_); refine zg (some 8) Tryz.func32 #[.string a1] ?_; (with_reducible refine (impl_ParseRange.calls k a1 a5 false _ ?s1 A2.out).mono ?_); (case s1 => exact GW.below HG.out (zW HB.out)); rintro e d8 ⟨b0, rfl, a2, hb⟩; refine ⟨_, rfl, ?_⟩; have b1 := zA (Kd.N_lower (Kd.N_mono (ok' := fun k_ => k_ ≠ a4) a2 (fun k_ hk_ => (Kd.freshB (zK a0.out) k_ hk_))) (below_size (zW HB.out))); replace a0 := zb a0 hb; replace HB := zh HB hb; (try clear hb a2)))
  go_ret
  exact ⟨zE, zW HB.out⟩
end Go.Proofs.YtpcdhoeoefoeoaaGreatDoor.PGD
