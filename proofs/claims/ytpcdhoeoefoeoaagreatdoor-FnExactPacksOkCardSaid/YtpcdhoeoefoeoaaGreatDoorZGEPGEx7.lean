/- The walks of the functions that these laws reach, and what each comes to: printed by this session's program. -/
import Derived.Test.YtpcdhoeoefoeoaaGreatDoorZGEPGEx0
import Derived.Test.YtpcdhoeoefoeoaaGreatDoorZGEPGEx4
import Derived.Test.YtpcdhoeoefoeoaaGreatDoorZGESays
import Derived.Test.YtpcdhoeoefoeoaaGreatDoorZGERegN
import Derived.Test.YtpcdhoeoefoeoaaGreatDoorZGERegs
import Derived.Deep.CutBlock
import Derived.Test.YtpcdhoeoefoeoaaGreatDoorZGEPGEx1
namespace Go.Proofs.YtpcdhoeoefoeoaaGreatDoor.PGE
open Go.RowKit YtpcdhoeoefoeoaaGreatDoorW.PrintWords YtpcdhoeoefoeoaaGreatDoorW.PrintLast YtpcdhoeoefoeoaaGreatDoorW.PrintMore
attribute [local go_sem high] Mine.str_gtr Mine.str_leq Mine.str_geq
attribute [local go_sem] max2_int min2_int max_two min_two max_three min_three max_four min_four   -- for this text's walks alone
set_option linter.unusedVariables false
set_option maxHeartbeats 8000000
set_option maxRecDepth 100000
set_option linter.unusedSimpArgs false
/-! ### spec_l4Make: function 154 -/
mutual
def spec_l4Make.j0 : Nat → ByteArray → Bool → Bool → Int → Int → Int → List ByteArray → Int → Bool → Option ((List (S75)))
 | 0, _, _, _, _, _, _, _, _, _ => none
 | k + 1, x0, x5, b2, a0, a1, a2, a3, a4, a5 => if b2 = true then (some (([(⟨3, (⟨a0, a1, a2, a3⟩ : S32)⟩ : S75)] : List (S75)))) else (if x0.toList = ([62] : List UInt8) then ((spec_l4Next.f a0 a1 a2 a3 a4 a5).bind fun a9 => (some (([(⟨4, (⟨a9.1, a9.2.1, a9.2.2.1, a9.2.2.2⟩ : S32)⟩ : S75)] : List (S75))))) else (if x0.toList = ([60, 61] : List UInt8) then (spec_l4Make.j1 k x0 x5 x5 a0 a1 a2 a3 a4 a5) else (spec_l4Make.j1 k x0 x5 false a0 a1 a2 a3 a4 a5)))
def spec_l4Make.j1 : Nat → ByteArray → Bool → Bool → Int → Int → Int → List ByteArray → Int → Bool → Option ((List (S75)))
 | 0, _, _, _, _, _, _, _, _, _ => none
 | k + 1, x0, x5, b3, a0, a1, a2, a3, a4, a5 => if b3 = true then (some (([(⟨2, (⟨a0, a1, a2, a3⟩ : S32)⟩ : S75)] : List (S75)))) else (if x0.toList = ([60, 61] : List UInt8) then ((spec_l4Next.f a0 a1 a2 a3 a4 a5).bind fun b0 => ((spec_l4Below.f b0.1 b0.2.1 b0.2.2.1 b0.2.2.2).bind fun a6 => (some (([(⟨a6.1, (⟨a6.2.1, a6.2.2.1, a6.2.2.2.1, a6.2.2.2.2⟩ : S32)⟩ : S75)] : List (S75)))))) else (if x5 = true then (some (([(⟨0, (⟨a0, a1, a2, a3⟩ : S32)⟩ : S75)] : List (S75)))) else ((spec_l4From.f a0 a1 a2 a3 a4 a5).bind fun a7 => ((spec_l4Next.f a0 a1 a2 a3 a4 a5).bind fun b1 => ((spec_l4Below.f b1.1 b1.2.1 b1.2.2.1 b1.2.2.2).bind fun a8 => (some (([(⟨a7.1, (⟨a7.2.1, a7.2.2.1, a7.2.2.2.1, a7.2.2.2.2⟩ : S32)⟩ : S75), (⟨a8.1, (⟨a8.2.1, a8.2.2.1, a8.2.2.2.1, a8.2.2.2.2⟩ : S32)⟩ : S75)] : List (S75)))))))))
end
def spec_l4Make.f (k : Nat) (a0 : ByteArray) (a2 a3 a4 : Int) (a5 : List ByteArray) (a1 : Int) (a6 : Bool) : Option ((List (S75))) := if a0.toList = ([94] : List UInt8) then ((spec_l4From.f a2 a3 a4 a5 a1 a6).bind fun a7 => ((spec_l4Caret.f k a2 a3 a4 a5 a1 a6).bind fun b2 => ((spec_l4Below.f b2.1 b2.2.1 b2.2.2.1 b2.2.2.2).bind fun a8 => (some (([(⟨a7.1, (⟨a7.2.1, a7.2.2.1, a7.2.2.2.1, a7.2.2.2.2⟩ : S32)⟩ : S75), (⟨a8.1, (⟨a8.2.1, a8.2.2.1, a8.2.2.2.1, a8.2.2.2.2⟩ : S32)⟩ : S75)] : List (S75))))))) else (if a0.toList = ([126] : List UInt8) then ((spec_l4From.f a2 a3 a4 a5 a1 a6).bind fun a9 => ((spec_l4Tilde.f a2 a3 a4 a5 a1 a6).bind fun b3 => ((spec_l4Below.f b3.1 b3.2.1 b3.2.2.1 b3.2.2.2).bind fun b0 => (some (([(⟨a9.1, (⟨a9.2.1, a9.2.2.1, a9.2.2.2.1, a9.2.2.2.2⟩ : S32)⟩ : S75), (⟨b0.1, (⟨b0.2.1, b0.2.2.1, b0.2.2.2.1, b0.2.2.2.2⟩ : S32)⟩ : S75)] : List (S75))))))) else (if a0.toList = ([62, 61] : List UInt8) then ((spec_l4From.f a2 a3 a4 a5 a1 a6).bind fun b1 => (some (([(⟨b1.1, (⟨b1.2.1, b1.2.2.1, b1.2.2.2.1, b1.2.2.2.2⟩ : S32)⟩ : S75)] : List (S75))))) else (if a0.toList = ([60] : List UInt8) then (some (([(⟨1, (⟨a2, a3, a4, a5⟩ : S32)⟩ : S75)] : List (S75)))) else (if a0.toList = ([62] : List UInt8) then (spec_l4Make.j0 k a0 (a1 == 3) (a1 == 3) a2 a3 a4 a5 a1 a6) else (spec_l4Make.j0 k a0 (a1 == 3) false a2 a3 a4 a5 a1 a6)))))
theorem spec_l4Make.calls (k : Nat) (a0 : ByteArray) (a5 a6 a7 : Int) (a9 : Nat → Prop) (b2 : Option Addr) (b3 : Nat) (a2 : List ByteArray) (b1 : Int) (b4 : Bool) (r : List (S75)) (w : World) (y6 : Kd.V Kd.string 9 w w.heap.size (fun k_ => a9 k_) (.slice b2 a2.length b3) a2) (h : spec_l4Make.f k a0 a5 a6 a7 a2 b1 b4 = some r) :
  Calls Tryz.prog 154 #[.string a0, .agg #[.int .i64 a5, .int .i64 a6, .int .i64 a7, .slice b2 a2.length b3, .int .i64 b1, .bool b4]] w fun e w' => ∃ q1 : Value, e = .returned (q1) ∧ Kd.N k75 75 w' w.heap.size (fun k_ => (a9 k_ ∨ w.heap.size ≤ k_)) q1 r ∧ Below w.heap.size w w' := by
 have F9 := Tryz.underlying169
 have G0 := Tryz.underlying32
 have G1 := Tryz.underlying75
 have b0 := zA (show Kd.V Kd.string 9 w w.heap.size (fun k_ => (a9 k_ ∨ w.heap.size ≤ k_)) (.slice b2 a2.length b3) a2 from Kd.V_mono y6 (fun k_ hk => .inl hk))
 have HB := zA (Below.refl w.heap.size w)
 unfold spec_l4Make.f at h
 have H := h
 clear h
 go_enter Tryz.func154, Tryz.ntmps154
 go_upto_if 9 with (first | ((with_reducible refine zd 3 ?_); refine ze 3 169 #[.int .i64 a5, .int .i64 a6, .int .i64 a7, .slice b2 a2.length b3, .int .i64 b1, .bool b4] ?_; intro a3 hg w7 hbox hb; replace b0 := zA (Kd.V_below (Kd.V_elderB (zV b0.out) a3 (Nat.le_of_eq hg.symm)) hb); have a1 := zA (hbox); have G2 := zi HB hg; have G3 := zi HB hg; replace HB := zA (below_step (zB) hb); clear hb hbox hg; obtain ⟨l4, l5, l6, l7, l8, l9, m0, m1, m2, m3, m4, m5⟩ := ze6 a1.out))
 (try simp only [Act.put, zT])
 replace H := zI1 H
 rcases H with ⟨c3, H⟩ | ⟨c3, H⟩
 ·have d3 := beq_iff_eq.mpr c3; have d4 := bne_eq_false_iff_eq.mpr c3; clear c3; replace H := Option.bind_eq_some_iff.mp H; obtain ⟨⟨d9, e0, e1, e2, e3⟩, q2, H⟩ := H
  try dsimp only at H
  have A4 := zA q2; clear q2; replace H := Option.bind_eq_some_iff.mp H; obtain ⟨⟨n3, n4, n5, b8⟩, q3, H⟩ := H
  try dsimp only at H
  have A5 := zA q3; clear q3; replace H := Option.bind_eq_some_iff.mp H; obtain ⟨⟨e4, e5, e6, e7, e8⟩, q4, H⟩ := H
  try dsimp only at H
  have A6 := zA q4; clear q4; obtain ⟨y7, n6⟩ : ∃ y_ : List (S75), y_ = (([(⟨d9, (⟨e0, e1, e2, e3⟩ : S32)⟩ : S75), (⟨e4, (⟨e5, e6, e7, e8⟩ : S32)⟩ : S75)] : List (S75))) := ⟨_, rfl⟩; replace H : (some y7) = some r := zY n6 H; have q5 := zA n6; clear n6; obtain rfl := zm H
  (try simp only [d3, d4])
  try go_wp2
  replace b0 := zA (Kd.V_drew b0.out); replace a1 := zA (blk_drew a1.out); replace HB := zA (below_drew1 HB.out)
  refine start_ (n := 7) (S := fun w' => w'.cell? ⟨a3, 0, none⟩ = some (.int .i64 a5) ∧ w'.cell? ⟨a3, 1, none⟩ = some (.int .i64 a6) ∧ w'.cell? ⟨a3, 2, none⟩ = some (.int .i64 a7) ∧ w'.cell? ⟨a3, 3, none⟩ = some (.slice b2 a2.length b3) ∧ w'.cell? ⟨a3, 4, none⟩ = some (.int .i64 b1) ∧ w'.cell? ⟨a3, 5, none⟩ = some (.bool b4)) (ds := []) (Array.replicate 7 false) (by kernel_rfl) rfl rfl zO fun hHeld => ?_
  generalize w7.drew = w9 at b0 a1 HB hHeld ⊢; refine zt 0 12 ?_; refine zt 2 14 ?_
  refine zo 1 (some 13) fun K hK => ?_
  refine goes_ Tryz.func177 (by kernel_rfl) rfl #[.agg #[.int .i64 a5, .int .i64 a6, .int .i64 a7, .slice b2 a2.length b3, .int .i64 b1, .bool b4]] (by rfl) rfl rfl zM ?_
  with_reducible refine (spec_l4From.calls a5 a6 a7 (fun k_ => ((a9 k_ ∨ w.heap.size ≤ k_) ∧ k_ ≠ a3)) _ _ a2 b1 b4 d9 e0 e1 e2 e3 _ ?s1 A4.out).mono ?_
  (case s1 => exact b0.out)
  rintro e G4 ⟨G5, rfl, a4, hb⟩
  refine ⟨_, rfl, ?_⟩
  replace b0 := zA (Kd.V_below (zV b0.out) hb); have b9 := zA (Kd.V_lower (Kd.V_mono (ok' := fun k_ => (a9 k_ ∨ w.heap.size ≤ k_) ∧ k_ ≠ a3) a4 (fun k_ hk_ => ⟨Or.elim hk_ (fun hs_ => hs_.1) (fun hn_ => (.inr (Nat.le_trans (below_size (zW HB.out)) hn_))), Or.elim hk_ (fun hs_ => hs_.2) (fun hn_ => (Kd.freshB (zK a1.out) k_ hn_))⟩)) (below_size (zW HB.out))); replace a1 := zb a1 hb; replace HB := zh HB hb
  (try clear hb a4)
  refine hK.out _ _ zO fun hHeld => ?_
  clear hK K; refine zn ?_
  refine zo 3 (some 15) fun K hK => ?_
  refine goes_ Tryz.func179 (by kernel_rfl) rfl #[.agg #[.int .i64 a5, .int .i64 a6, .int .i64 a7, .slice b2 a2.length b3, .int .i64 b1, .bool b4]] (by rfl) rfl rfl zM ?_
  with_reducible refine (spec_l4Caret.calls k a5 a6 a7 _ _ a2 b1 b4 n3 n4 n5 b8 _ ?s1 ?s2 A5.out).mono ?_
  (case s1 => repeat (first | exact (Kd.V_reads' b0.out).2.2 | (with_reducible refine Kd.C_alloc ?_ _) | (with_reducible refine Kd.C_drewN ?_ _) | (with_reducible refine Kd.C_drew ?_)))
  (case s2 => exact (Kd.V_reads' b0.out).2.1)
  rintro e G6 ⟨G7, rfl, a4, hb⟩
  refine ⟨_, rfl, ?_⟩
  replace b0 := zA (Kd.V_elder' (zV b0.out) (Kd.R_base a4) hb); replace b9 := zA (Kd.V_elder' (zV b9.out) (Kd.R_base a4) hb); have c0 := zA (Kd.R_lower (Kd.R_newM (M := fun k_ => (w.heap.size ≤ k_)) a4 (below_size (zW HB.out)) (fun k_ h_ => h_)) (below_size (zW HB.out))); replace a1 := zb a1 hb; replace HB := zh HB hb
  (try clear hb a4)
  obtain ⟨e9, f0, q6⟩ := Kd.R_slice c0.out
  (first | subst q6 | (injection q6 with f1_ f2_ f3_; have b5 := f1_.symm; have b6 := f3_.symm; clear f1_ f2_ f3_; subst b5; subst b6))
  refine hK.out _ _ zO fun hHeld => ?_
  clear hK K; refine zn ?_
  refine zo 4 (some 16) fun K hK => ?_
  refine goes_ Tryz.func178 (by kernel_rfl) rfl #[.agg #[.int .i64 n3, .int .i64 n4, .int .i64 n5, .slice e9 b8.length f0]] (by rfl) rfl rfl zM ?_
  with_reducible refine (spec_l4Below.calls n3 n4 n5 _ _ b8 e4 e5 e6 e7 e8 _ ?s1 ?s2 A6.out).mono ?_
  (case s1 => repeat (first | exact (Kd.R_reads' c0.out).2.2 | (with_reducible refine Kd.C_alloc ?_ _) | (with_reducible refine Kd.C_drewN ?_ _) | (with_reducible refine Kd.C_drew ?_)))
  (case s2 => exact (Kd.R_reads' c0.out).2.1)
  rintro e y8 ⟨G8, rfl, a4, hb⟩
  refine ⟨_, rfl, ?_⟩
  replace b0 := zA (Kd.V_elder' (zV b0.out) (Kd.R_base a4) hb); replace b9 := zA (Kd.V_elder' (zV b9.out) (Kd.R_base a4) hb); have m6 := zA (Kd.R_lower (Kd.R_new' (Kd.R_newM (M := fun k_ => (w.heap.size ≤ k_)) a4 (below_size (zW HB.out)) (fun k_ h_ => h_)) (Kd.R_lt (zR c0.out))) (below_size (zW HB.out))); replace c0 := zA (Kd.R_elder' (zR c0.out) (Kd.R_base a4) hb); replace a1 := zb a1 hb; replace HB := zh HB hb
  (try clear hb a4)
  obtain ⟨q7, q8, q9⟩ := Kd.V_slice b9.out
  (first | subst q9 | (injection q9 with f1_ f2_ f3_; have b5 := f1_.symm; have b6 := f3_.symm; clear f1_ f2_ f3_; subst b5; subst b6))
  obtain ⟨r0, r1, r2⟩ := Kd.R_slice m6.out
  (first | subst r2 | (injection r2 with f1_ f2_ f3_; have b5 := f1_.symm; have b6 := f3_.symm; clear f1_ f2_ f3_; subst b5; subst b6))
  refine hK.out _ _ zO fun hHeld => ?_
  clear hK K; refine zn ?_
  refine zo 5 (some 17) fun K hK => ?_
  refine Kd.N_lit_step k75 _ 75 ?hg (N' := 17) ?hd (xs := ([(⟨d9, (⟨e0, e1, e2, e3⟩ : S32)⟩ : S75), (⟨e4, (⟨e5, e6, e7, e8⟩ : S32)⟩ : S75)] : List (S75))) (inner := [.int .i64 d9, .int .i64 e0, .int .i64 e1, .int .i64 e2, .slice q7 e3.length q8, .int .i64 e4, .int .i64 e5, .int .i64 e6, .int .i64 e7, .slice r0 e8.length r1]) (ok := (fun k_ => (a9 k_ ∨ w.heap.size ≤ k_) ∧ some k_ ≠ (.slice e9 b8.length f0 : Value).ownBlock ∧ k_ ≠ a3)) ?hr ?hp (fun _ hk => hk) ((show ∀ k_, y8.heap.size ≤ k_ → (fun k_ => (a9 k_ ∨ w.heap.size ≤ k_) ∧ some k_ ≠ (.slice e9 b8.length f0 : Value).ownBlock ∧ k_ ≠ a3) k_ from fun k_ hk => ⟨(.inr (Nat.le_trans (below_size (zW HB.out)) hk)), Kd.fresh' (Kd.R_lt (zR c0.out)) k_ hk, Kd.freshB (zK a1.out) k_ hk⟩) _ (Nat.le_refl _)) (Below.refl _ _) (Nat.le_refl _) (by simp) ?_; (case hd => rfl); (case hg => rfl); (case hr => first | (go_simp; done) | (go_simp; rfl)); (case hp => exact (Reps.c5 (show Kd.FK k75 _ _ (⟨d9, (⟨e0, e1, e2, e3⟩ : S32)⟩ : S75) [.int .i64 d9, .int .i64 e0, .int .i64 e1, .int .i64 e2, .slice q7 e3.length q8] from (k75_mkF _ _ (⟨d9, (⟨e0, e1, e2, e3⟩ : S32)⟩ : S75) (Kd.V_reads' (Kd.V_mono (ok' := (fun k_ => (a9 k_ ∨ w.heap.size ≤ k_) ∧ some k_ ≠ (.slice e9 b8.length f0 : Value).ownBlock ∧ k_ ≠ a3)) (b9.out) (fun k_ hk => ⟨hk.1.1.1, ⟨hk.1.2, hk.1.1.2⟩⟩))).2.1 (Kd.V_F (Kd.V_mono (ok' := (fun k_ => (a9 k_ ∨ w.heap.size ≤ k_) ∧ some k_ ≠ (.slice e9 b8.length f0 : Value).ownBlock ∧ k_ ≠ a3)) (b9.out) (fun k_ hk => ⟨hk.1.1.1, ⟨hk.1.2, hk.1.1.2⟩⟩))))) (Reps.c5 (show Kd.FK k75 _ _ (⟨e4, (⟨e5, e6, e7, e8⟩ : S32)⟩ : S75) [.int .i64 e4, .int .i64 e5, .int .i64 e6, .int .i64 e7, .slice r0 e8.length r1] from (k75_mkF _ _ (⟨e4, (⟨e5, e6, e7, e8⟩ : S32)⟩ : S75) (Kd.R_reads' (Kd.R_mono (ok' := (fun k_ => (a9 k_ ∨ w.heap.size ≤ k_) ∧ some k_ ≠ (.slice e9 b8.length f0 : Value).ownBlock ∧ k_ ≠ a3)) (Kd.R_types (m6.out) a1.out (by decide)) (fun k_ hk => ⟨(.inr (hk.1.1.1)), ⟨hk.1.2, hk.2⟩⟩))).2.1 (Kd.R_F (Kd.R_mono (ok' := (fun k_ => (a9 k_ ∨ w.heap.size ≤ k_) ∧ some k_ ≠ (.slice e9 b8.length f0 : Value).ownBlock ∧ k_ ≠ a3)) (Kd.R_types (m6.out) a1.out (by decide)) (fun k_ hk => ⟨(.inr (hk.1.1.1)), ⟨hk.1.2, hk.2⟩⟩))))) (Reps.none _ _))))
  intro G9 I0 f1 hb hg_ hnew_
  clear hg_ hnew_
  (first | rw [← q5.out] at f1 | (simp only [Int.reduceToNat] at f1; rw [← q5.out] at f1))
  replace b0 := zA (Kd.V_elder' (zV b0.out) (Kd.N_base f1) hb); replace b9 := zA (Kd.V_elder' (zV b9.out) (Kd.N_base f1) hb); replace c0 := zr c0 hb; have y9 := zA (Kd.N_lower f1 (below_size (zW HB.out))); replace a1 := zb a1 hb; replace HB := zh HB hb; clear m6; clear hb f1
  refine hK.out _ _ zO fun hHeld => ?_
  clear hK K; refine zn ?_; refine zp 6 4 ?_
  refine done_ (by kernel_rfl) ?_
  try go_wp2
  go_ret
  exact ⟨_, zE, zNt (Kd.N_mono y9.out (fun _ hk => hk.1)), zW HB.out⟩
 have d3 := beq_eq_false_iff_ne.mpr c3
 have d4 := bne_iff_ne.mpr c3
 replace H := zI1 H
 rcases H with ⟨d5, H⟩ | ⟨d5, H⟩
 ·have f2 := beq_iff_eq.mpr d5; have f3 := bne_eq_false_iff_eq.mpr d5; clear d5; replace H := Option.bind_eq_some_iff.mp H; obtain ⟨⟨f4, f5, f6, f7, f8⟩, r3, H⟩ := H
  try dsimp only at H
  have z0 := zA r3; clear r3; replace H := Option.bind_eq_some_iff.mp H; obtain ⟨⟨n7, n8, n9, c2⟩, r4, H⟩ := H
  try dsimp only at H
  have z1 := zA r4; clear r4; replace H := Option.bind_eq_some_iff.mp H; obtain ⟨⟨f9, g0, g1, g2, g3⟩, r5, H⟩ := H
  try dsimp only at H
  have z2 := zA r5; clear r5; obtain ⟨z3, o0⟩ : ∃ y_ : List (S75), y_ = (([(⟨f4, (⟨f5, f6, f7, f8⟩ : S32)⟩ : S75), (⟨f9, (⟨g0, g1, g2, g3⟩ : S32)⟩ : S75)] : List (S75))) := ⟨_, rfl⟩; replace H : (some z3) = some r := zY o0 H; have r6 := zA o0; clear o0; obtain rfl := zm H
  (try simp only [d3, d4, f2, f3])
  try go_wp2
  replace b0 := zA (Kd.V_drew b0.out); replace a1 := zA (blk_drew a1.out); replace HB := zA (below_drew1 HB.out)
  refine start_ (n := 7) (S := fun w' => w'.cell? ⟨a3, 0, none⟩ = some (.int .i64 a5) ∧ w'.cell? ⟨a3, 1, none⟩ = some (.int .i64 a6) ∧ w'.cell? ⟨a3, 2, none⟩ = some (.int .i64 a7) ∧ w'.cell? ⟨a3, 3, none⟩ = some (.slice b2 a2.length b3) ∧ w'.cell? ⟨a3, 4, none⟩ = some (.int .i64 b1) ∧ w'.cell? ⟨a3, 5, none⟩ = some (.bool b4)) (ds := []) (Array.replicate 7 false) (by kernel_rfl) rfl rfl zO fun hHeld => ?_
  generalize w7.drew = I1 at b0 a1 HB hHeld ⊢; refine zt 0 21 ?_; refine zt 2 23 ?_
  refine zo 1 (some 22) fun K hK => ?_
  refine goes_ Tryz.func177 (by kernel_rfl) rfl #[.agg #[.int .i64 a5, .int .i64 a6, .int .i64 a7, .slice b2 a2.length b3, .int .i64 b1, .bool b4]] (by rfl) rfl rfl zM ?_
  with_reducible refine (spec_l4From.calls a5 a6 a7 (fun k_ => ((a9 k_ ∨ w.heap.size ≤ k_) ∧ k_ ≠ a3)) _ _ a2 b1 b4 f4 f5 f6 f7 f8 _ ?s1 z0.out).mono ?_
  (case s1 => exact b0.out)
  rintro e I2 ⟨I3, rfl, a4, hb⟩
  refine ⟨_, rfl, ?_⟩
  replace b0 := zA (Kd.V_below (zV b0.out) hb); have c7 := zA (Kd.V_lower (Kd.V_mono (ok' := fun k_ => (a9 k_ ∨ w.heap.size ≤ k_) ∧ k_ ≠ a3) a4 (fun k_ hk_ => ⟨Or.elim hk_ (fun hs_ => hs_.1) (fun hn_ => (.inr (Nat.le_trans (below_size (zW HB.out)) hn_))), Or.elim hk_ (fun hs_ => hs_.2) (fun hn_ => (Kd.freshB (zK a1.out) k_ hn_))⟩)) (below_size (zW HB.out))); replace a1 := zb a1 hb; replace HB := zh HB hb
  (try clear hb a4)
  refine hK.out _ _ zO fun hHeld => ?_
  clear hK K; refine zn ?_
  refine zo 3 (some 24) fun K hK => ?_
  refine goes_ Tryz.func180 (by kernel_rfl) rfl #[.agg #[.int .i64 a5, .int .i64 a6, .int .i64 a7, .slice b2 a2.length b3, .int .i64 b1, .bool b4]] (by rfl) rfl rfl zM ?_
  with_reducible refine (spec_l4Tilde.calls a5 a6 a7 _ _ a2 b1 b4 n7 n8 n9 c2 _ ?s1 ?s2 z1.out).mono ?_
  (case s1 => repeat (first | exact (Kd.V_reads' b0.out).2.2 | (with_reducible refine Kd.C_alloc ?_ _) | (with_reducible refine Kd.C_drewN ?_ _) | (with_reducible refine Kd.C_drew ?_)))
  (case s2 => exact (Kd.V_reads' b0.out).2.1)
  rintro e I4 ⟨I5, rfl, a4, hb⟩
  refine ⟨_, rfl, ?_⟩
  replace b0 := zA (Kd.V_elder' (zV b0.out) (Kd.R_base a4) hb); replace c7 := zA (Kd.V_elder' (zV c7.out) (Kd.R_base a4) hb); have c8 := zA (Kd.R_lower (Kd.R_newM (M := fun k_ => (w.heap.size ≤ k_)) a4 (below_size (zW HB.out)) (fun k_ h_ => h_)) (below_size (zW HB.out))); replace a1 := zb a1 hb; replace HB := zh HB hb
  (try clear hb a4)
  obtain ⟨g4, g5, r7⟩ := Kd.R_slice c8.out
  (first | subst r7 | (injection r7 with f1_ f2_ f3_; have b5 := f1_.symm; have b6 := f3_.symm; clear f1_ f2_ f3_; subst b5; subst b6))
  refine hK.out _ _ zO fun hHeld => ?_
  clear hK K; refine zn ?_
  refine zo 4 (some 25) fun K hK => ?_
  refine goes_ Tryz.func178 (by kernel_rfl) rfl #[.agg #[.int .i64 n7, .int .i64 n8, .int .i64 n9, .slice g4 c2.length g5]] (by rfl) rfl rfl zM ?_
  with_reducible refine (spec_l4Below.calls n7 n8 n9 _ _ c2 f9 g0 g1 g2 g3 _ ?s1 ?s2 z2.out).mono ?_
  (case s1 => repeat (first | exact (Kd.R_reads' c8.out).2.2 | (with_reducible refine Kd.C_alloc ?_ _) | (with_reducible refine Kd.C_drewN ?_ _) | (with_reducible refine Kd.C_drew ?_)))
  (case s2 => exact (Kd.R_reads' c8.out).2.1)
  rintro e z4 ⟨I6, rfl, a4, hb⟩
  refine ⟨_, rfl, ?_⟩
  replace b0 := zA (Kd.V_elder' (zV b0.out) (Kd.R_base a4) hb); replace c7 := zA (Kd.V_elder' (zV c7.out) (Kd.R_base a4) hb); have m7 := zA (Kd.R_lower (Kd.R_new' (Kd.R_newM (M := fun k_ => (w.heap.size ≤ k_)) a4 (below_size (zW HB.out)) (fun k_ h_ => h_)) (Kd.R_lt (zR c8.out))) (below_size (zW HB.out))); replace c8 := zA (Kd.R_elder' (zR c8.out) (Kd.R_base a4) hb); replace a1 := zb a1 hb; replace HB := zh HB hb
  (try clear hb a4)
  obtain ⟨r8, r9, t0⟩ := Kd.V_slice c7.out
  (first | subst t0 | (injection t0 with f1_ f2_ f3_; have b5 := f1_.symm; have b6 := f3_.symm; clear f1_ f2_ f3_; subst b5; subst b6))
  obtain ⟨t1, t2, t3⟩ := Kd.R_slice m7.out
  (first | subst t3 | (injection t3 with f1_ f2_ f3_; have b5 := f1_.symm; have b6 := f3_.symm; clear f1_ f2_ f3_; subst b5; subst b6))
  refine hK.out _ _ zO fun hHeld => ?_
  clear hK K; refine zn ?_
  refine zo 5 (some 26) fun K hK => ?_
  refine Kd.N_lit_step k75 _ 75 ?hg (N' := 26) ?hd (xs := ([(⟨f4, (⟨f5, f6, f7, f8⟩ : S32)⟩ : S75), (⟨f9, (⟨g0, g1, g2, g3⟩ : S32)⟩ : S75)] : List (S75))) (inner := [.int .i64 f4, .int .i64 f5, .int .i64 f6, .int .i64 f7, .slice r8 f8.length r9, .int .i64 f9, .int .i64 g0, .int .i64 g1, .int .i64 g2, .slice t1 g3.length t2]) (ok := (fun k_ => (a9 k_ ∨ w.heap.size ≤ k_) ∧ some k_ ≠ (.slice g4 c2.length g5 : Value).ownBlock ∧ k_ ≠ a3)) ?hr ?hp (fun _ hk => hk) ((show ∀ k_, z4.heap.size ≤ k_ → (fun k_ => (a9 k_ ∨ w.heap.size ≤ k_) ∧ some k_ ≠ (.slice g4 c2.length g5 : Value).ownBlock ∧ k_ ≠ a3) k_ from fun k_ hk => ⟨(.inr (Nat.le_trans (below_size (zW HB.out)) hk)), Kd.fresh' (Kd.R_lt (zR c8.out)) k_ hk, Kd.freshB (zK a1.out) k_ hk⟩) _ (Nat.le_refl _)) (Below.refl _ _) (Nat.le_refl _) (by simp) ?_; (case hd => rfl); (case hg => rfl); (case hr => first | (go_simp; done) | (go_simp; rfl)); (case hp => exact (Reps.c5 (show Kd.FK k75 _ _ (⟨f4, (⟨f5, f6, f7, f8⟩ : S32)⟩ : S75) [.int .i64 f4, .int .i64 f5, .int .i64 f6, .int .i64 f7, .slice r8 f8.length r9] from (k75_mkF _ _ (⟨f4, (⟨f5, f6, f7, f8⟩ : S32)⟩ : S75) (Kd.V_reads' (Kd.V_mono (ok' := (fun k_ => (a9 k_ ∨ w.heap.size ≤ k_) ∧ some k_ ≠ (.slice g4 c2.length g5 : Value).ownBlock ∧ k_ ≠ a3)) (c7.out) (fun k_ hk => ⟨hk.1.1.1, ⟨hk.1.2, hk.1.1.2⟩⟩))).2.1 (Kd.V_F (Kd.V_mono (ok' := (fun k_ => (a9 k_ ∨ w.heap.size ≤ k_) ∧ some k_ ≠ (.slice g4 c2.length g5 : Value).ownBlock ∧ k_ ≠ a3)) (c7.out) (fun k_ hk => ⟨hk.1.1.1, ⟨hk.1.2, hk.1.1.2⟩⟩))))) (Reps.c5 (show Kd.FK k75 _ _ (⟨f9, (⟨g0, g1, g2, g3⟩ : S32)⟩ : S75) [.int .i64 f9, .int .i64 g0, .int .i64 g1, .int .i64 g2, .slice t1 g3.length t2] from (k75_mkF _ _ (⟨f9, (⟨g0, g1, g2, g3⟩ : S32)⟩ : S75) (Kd.R_reads' (Kd.R_mono (ok' := (fun k_ => (a9 k_ ∨ w.heap.size ≤ k_) ∧ some k_ ≠ (.slice g4 c2.length g5 : Value).ownBlock ∧ k_ ≠ a3)) (Kd.R_types (m7.out) a1.out (by decide)) (fun k_ hk => ⟨(.inr (hk.1.1.1)), ⟨hk.1.2, hk.2⟩⟩))).2.1 (Kd.R_F (Kd.R_mono (ok' := (fun k_ => (a9 k_ ∨ w.heap.size ≤ k_) ∧ some k_ ≠ (.slice g4 c2.length g5 : Value).ownBlock ∧ k_ ≠ a3)) (Kd.R_types (m7.out) a1.out (by decide)) (fun k_ hk => ⟨(.inr (hk.1.1.1)), ⟨hk.1.2, hk.2⟩⟩))))) (Reps.none _ _))))
  intro I7 I8 g6 hb hg_ hnew_
  clear hg_ hnew_
  (first | rw [← r6.out] at g6 | (simp only [Int.reduceToNat] at g6; rw [← r6.out] at g6))
  replace b0 := zA (Kd.V_elder' (zV b0.out) (Kd.N_base g6) hb); replace c7 := zA (Kd.V_elder' (zV c7.out) (Kd.N_base g6) hb); replace c8 := zr c8 hb; have z5 := zA (Kd.N_lower g6 (below_size (zW HB.out))); replace a1 := zb a1 hb; replace HB := zh HB hb; clear m7; clear hb g6
  refine hK.out _ _ zO fun hHeld => ?_
  clear hK K; refine zn ?_; refine zp 6 4 ?_
  refine done_ (by kernel_rfl) ?_
  try go_wp2
  go_ret
  exact ⟨_, zE, zNt (Kd.N_mono z5.out (fun _ hk => hk.1)), zW HB.out⟩
 have f2 := beq_eq_false_iff_ne.mpr d5
 have f3 := bne_iff_ne.mpr d5
 replace H := zI1 H
 rcases H with ⟨d6, H⟩ | ⟨d6, H⟩
 ·have k0 := beq_iff_eq.mpr d6; have k1 := bne_eq_false_iff_eq.mpr d6; clear d6; replace H := Option.bind_eq_some_iff.mp H; obtain ⟨⟨g7, g8, g9, h0, h1⟩, t4, H⟩ := H
  try dsimp only at H
  have z6 := zA t4; clear t4; obtain ⟨z7, o1⟩ : ∃ y_ : List (S75), y_ = (([(⟨g7, (⟨g8, g9, h0, h1⟩ : S32)⟩ : S75)] : List (S75))) := ⟨_, rfl⟩; replace H : (some z7) = some r := zY o1 H; have t5 := zA o1; clear o1; obtain rfl := zm H
  (try simp only [d3, d4, f2, f3, k0, k1])
  go_wp2_with (first | ((with_reducible refine zq 177 ?_); refine zg (some 31) Tryz.func177 #[.agg #[.int .i64 a5, .int .i64 a6, .int .i64 a7, .slice b2 a2.length b3, .int .i64 b1, .bool b4]] ?_; (with_reducible refine (spec_l4From.calls a5 a6 a7 (fun k_ => ((a9 k_ ∨ w.heap.size ≤ k_) ∧ k_ ≠ a3)) _ _ a2 b1 b4 g7 g8 g9 h0 h1 _ ?s1 z6.out).mono ?_); (case s1 => exact b0.out); rintro e I9 ⟨J0, rfl, a4, hb⟩; refine ⟨_, rfl, ?_⟩; replace b0 := zA (Kd.V_below (zV b0.out) hb); have l1 := zA (Kd.V_lower (Kd.V_mono (ok' := fun k_ => (a9 k_ ∨ w.heap.size ≤ k_) ∧ k_ ≠ a3) a4 (fun k_ hk_ => ⟨Or.elim hk_ (fun hs_ => hs_.1) (fun hn_ => (.inr (Nat.le_trans (below_size (zW HB.out)) hn_))), Or.elim hk_ (fun hs_ => hs_.2) (fun hn_ => (Kd.freshB (zK a1.out) k_ hn_))⟩)) (below_size (zW HB.out))); replace a1 := zb a1 hb; replace HB := zh HB hb; (try clear hb a4); obtain ⟨t6, t7, z8⟩ := Kd.V_slice l1.out; subst z8) | ((with_reducible refine gate_dst (N := 32) rfl ?_); refine zNl k75 75 32 (xs := ([(⟨g7, (⟨g8, g9, h0, h1⟩ : S32)⟩ : S75)] : List (S75))) (inner := [.int .i64 g7, .int .i64 g8, .int .i64 g9, .int .i64 h0, .slice t6 h1.length t7]) (ok := (fun k_ => (a9 k_ ∨ w.heap.size ≤ k_) ∧ k_ ≠ a3)) ((Reps.c5 (show Kd.FK k75 _ _ (⟨g7, (⟨g8, g9, h0, h1⟩ : S32)⟩ : S75) [.int .i64 g7, .int .i64 g8, .int .i64 g9, .int .i64 h0, .slice t6 h1.length t7] from (k75_mkF _ _ (⟨g7, (⟨g8, g9, h0, h1⟩ : S32)⟩ : S75) (Kd.V_reads' (l1.out)).2.1 (Kd.V_F (l1.out)))) (Reps.none _ _))) (fun k_ hk => ⟨(.inr (Nat.le_trans (below_size (zW HB.out)) hk)), Kd.freshB (zK a1.out) k_ hk⟩) ?_; intro J1 J2 h2 hb hg_ hnew_; clear hg_ hnew_; (first | rw [← t5.out] at h2 | (simp only [Int.reduceToNat] at h2; rw [← t5.out] at h2)); replace b0 := zA (Kd.V_elder' (zV b0.out) (Kd.N_base h2) hb); replace l1 := zA (Kd.V_elder' (zV l1.out) (Kd.N_base h2) hb); have z9 := zA (Kd.N_lower h2 (below_size (zW HB.out))); replace a1 := zb a1 hb; replace HB := zh HB hb; clear hb h2))
  go_ret
  exact ⟨_, zE, zNt (Kd.N_mono z9.out (fun _ hk => hk.1)), zW HB.out⟩
 have k0 := beq_eq_false_iff_ne.mpr d6
 have k1 := bne_iff_ne.mpr d6
 replace H := zI1 H
 rcases H with ⟨d7, H⟩ | ⟨d7, H⟩
 ·have l2 := beq_iff_eq.mpr d7; have l3 := bne_eq_false_iff_eq.mpr d7; clear d7; obtain ⟨A0, o2⟩ : ∃ y_ : List (S75), y_ = (([(⟨1, (⟨a5, a6, a7, a2⟩ : S32)⟩ : S75)] : List (S75))) := ⟨_, rfl⟩; replace H : (some A0) = some r := zY o2 H; have t8 := zA o2; clear o2; obtain rfl := zm H
  (try simp only [d3, d4, f2, f3, k0, k1, l2, l3])
  go_wp2_with (first | ((with_reducible refine gate_dst (N := 39) rfl ?_); refine zNl k75 75 39 (xs := ([(⟨1, (⟨a5, a6, a7, a2⟩ : S32)⟩ : S75)] : List (S75))) (inner := [.int .i64 1, .int .i64 a5, .int .i64 a6, .int .i64 a7, .slice b2 a2.length b3]) (ok := (fun k_ => (a9 k_ ∨ w.heap.size ≤ k_) ∧ k_ ≠ a3)) ((Reps.c5 (show Kd.FK k75 _ _ (⟨1, (⟨a5, a6, a7, a2⟩ : S32)⟩ : S75) [.int .i64 1, .int .i64 a5, .int .i64 a6, .int .i64 a7, .slice b2 a2.length b3] from (k75_mkF _ _ (⟨1, (⟨a5, a6, a7, a2⟩ : S32)⟩ : S75) (Kd.V_reads' (b0.out)).2.1 (Kd.V_F (b0.out)))) (Reps.none _ _))) (fun k_ hk => ⟨(.inr (Nat.le_trans (below_size (zW HB.out)) hk)), Kd.freshB (zK a1.out) k_ hk⟩) ?_; intro J3 J4 k2 hb hg_ hnew_; clear hg_ hnew_; (first | rw [← t8.out] at k2 | (simp only [Int.reduceToNat] at k2; rw [← t8.out] at k2)); replace b0 := zA (Kd.V_elder' (zV b0.out) (Kd.N_base k2) hb); have A1 := zA (Kd.N_lower k2 (below_size (zW HB.out))); replace a1 := zb a1 hb; replace HB := zh HB hb; clear hb k2))
  go_ret
  exact ⟨_, zE, zNt (Kd.N_mono A1.out (fun _ hk => hk.1)), zW HB.out⟩
 have l2 := beq_eq_false_iff_ne.mpr d7
 have l3 := bne_iff_ne.mpr d7
 have o3 := zA H
 clear H
 (try simp only [d3, d4, f2, f3, k0, k1, l2, l3])
 go_upto_region 10 with fail
 (try simp only [Act.put, zT])
 go_cut [40] (fun A2 wc => ∃ (kq : Nat) (o4 : Bool), A2 = .bool o4 ∧ Aside0 (spec_l4Make.j0 kq a0 (b1 == 3) o4 a5 a6 a7 a2 b1 b4 = some r) ∧ Aside0 (kq ≤ k) ∧ Aside0 (Kd.V Kd.string 9 wc w.heap.size (fun k_ => (a9 k_ ∨ w.heap.size ≤ k_) ∧ k_ ≠ a3) (.slice b2 a2.length b3) a2) ∧ Aside0 (wc.heap[a3]? = some (.cells #[.int .i64 a5, .int .i64 a6, .int .i64 a7, (.slice b2 a2.length b3), .int .i64 b1, .bool b4] 169 (0, 0))) ∧ Aside0 (Below w.heap.size w wc))
 case first =>
  have H := o3.out; clear o3; replace H := zI1 H
  rcases H with ⟨d8, H⟩ | ⟨d8, H⟩
  ·have h3 := beq_iff_eq.mpr d8; have o5 := bne_eq_false_iff_eq.mpr d8; clear d8
   (first | rw [h3] | (simp only [i64_w, i32_w]; rw [h3]) | skip)
   have H' := zA H; clear H
   go_wp2
   go_meet
   case rel => exact ⟨_, ((b1 == 3)), zS, (by first | exact H' | (subst_vars; exact H')), ⟨by first | omega | exact Nat.le_refl _⟩, ⟨zV b0.out⟩, ⟨zK a1.out⟩, ⟨zW HB.out⟩⟩
  have h3 := beq_eq_false_iff_ne.mpr d8; have o5 := bne_iff_ne.mpr d8
  (first | rw [h3] | (simp only [i64_w, i32_w]; rw [h3]) | skip)
  have H' := zA H; clear H
  go_wp2
  go_meet
  case rel => exact ⟨_, (false), zS, (by first | exact H' | (subst_vars; exact H')), ⟨by first | omega | exact Nat.le_refl _⟩, ⟨zV b0.out⟩, ⟨zK a1.out⟩, ⟨zW HB.out⟩⟩
 case rest =>
  clear o3
  try clear c1
  try clear p2
  try clear c3
  try clear d3
  try clear d4
  try clear c4
  try clear c5
  try clear c15
  try clear c17
  try clear d5
  try clear f2
  try clear f3
  try clear d6
  try clear k0
  try clear k1
  try clear d7
  try clear l2
  try clear l3
  try clear d8
  try clear h3
  try clear o5
  try clear hcz23_0 hcz23_1 hcz23_2 hcz23_3 hcz23_4 hcz23_5 hfz23_0 hfz23_1 hfz23_2 hfz23_3 hfz23_4 hfz23_5
  try clear hcz36_0 hcz36_1 hcz36_2 hcz36_3 hcz36_4 hcz36_5 hfz36_0 hfz36_1 hfz36_2 hfz36_3 hfz36_4 hfz36_5
  try clear hcz43_0 hcz43_1 hcz43_2 hcz43_3 hcz43_4 hcz43_5 hfz43_0 hfz43_1 hfz43_2 hfz43_3 hfz43_4 hfz43_5
  try clear l4 l5 l6 l7 l8 l9 m0 m1 m2 m3 m4 m5
  try clear l4 l5 l6 l7 l8 l9 m0 m1 m2 m3 m4 m5
  obtain ⟨kq, o4, rfl, HA, t9, a8, a1, HB⟩ := hcut
  cases kq with
  | zero => exact absurd HA.out (by simp [spec_l4Make.j0])
  | succ A3 =>
   have H := HA.out; clear HA; simp only [spec_l4Make.j0] at H; replace H := zB0 H
   rcases H with ⟨rfl, H⟩ | ⟨rfl, H⟩
   ·obtain ⟨A7, o6⟩ : ∃ y_ : List (S75), y_ = (([(⟨3, (⟨a5, a6, a7, a2⟩ : S32)⟩ : S75)] : List (S75))) := ⟨_, rfl⟩; replace H : (some A7) = some r := zY o6 H; have v0 := zA o6; clear o6; obtain rfl := zm H; obtain ⟨A8, A9, B0, B1, B2, B3, B4, B5, B6, B7, B8, B9⟩ := ze6 a1.out
    go_wp2_with (first | ((with_reducible refine gate_dst (N := 49) rfl ?_); refine zNl k75 75 49 (xs := ([(⟨3, (⟨a5, a6, a7, a2⟩ : S32)⟩ : S75)] : List (S75))) (inner := [.int .i64 3, .int .i64 a5, .int .i64 a6, .int .i64 a7, .slice b2 a2.length b3]) (ok := (fun k_ => (a9 k_ ∨ w.heap.size ≤ k_) ∧ k_ ≠ a3)) ((Reps.c5 (show Kd.FK k75 _ _ (⟨3, (⟨a5, a6, a7, a2⟩ : S32)⟩ : S75) [.int .i64 3, .int .i64 a5, .int .i64 a6, .int .i64 a7, .slice b2 a2.length b3] from (k75_mkF _ _ (⟨3, (⟨a5, a6, a7, a2⟩ : S32)⟩ : S75) (Kd.V_reads' (a8.out)).2.1 (Kd.V_F (a8.out)))) (Reps.none _ _))) (fun k_ hk => ⟨(.inr (Nat.le_trans (below_size (zW HB.out)) hk)), Kd.freshB (zK a1.out) k_ hk⟩) ?_; intro J5 J6 k3 hb hg_ hnew_; clear hg_ hnew_; (first | rw [← v0.out] at k3 | (simp only [Int.reduceToNat] at k3; rw [← v0.out] at k3)); replace a8 := zA (Kd.V_elder' (zV a8.out) (Kd.N_base k3) hb); have C0 := zA (Kd.N_lower k3 (below_size (zW HB.out))); replace a1 := zb a1 hb; replace HB := zh HB hb; clear hb k3))
    go_ret
    exact ⟨_, zE, zNt (Kd.N_mono C0.out (fun _ hk => hk.1)), zW HB.out⟩
   replace H := zI1 H
   rcases H with ⟨h4, H⟩ | ⟨h4, H⟩
   ·have v1 := beq_iff_eq.mpr h4; have v2 := bne_eq_false_iff_eq.mpr h4; clear h4; replace H := Option.bind_eq_some_iff.mp H; obtain ⟨⟨h5, h6, h7, h8⟩, v3, H⟩ := H
    try dsimp only at H
    have C1 := zA v3; clear v3; obtain ⟨C2, o7⟩ : ∃ y_ : List (S75), y_ = (([(⟨4, (⟨h5, h6, h7, h8⟩ : S32)⟩ : S75)] : List (S75))) := ⟨_, rfl⟩; replace H : (some C2) = some r := zY o7 H; have v4 := zA o7; clear o7; obtain rfl := zm H; obtain ⟨C3, C4, C5, C6, C7, C8, C9, D0, D1, D2, D3, D4⟩ := ze6 a1.out
    go_wp2_with (first | ((with_reducible refine zq 181 ?_); refine zg (some 54) Tryz.func181 #[.agg #[.int .i64 a5, .int .i64 a6, .int .i64 a7, .slice b2 a2.length b3, .int .i64 b1, .bool b4]] ?_; (with_reducible refine (spec_l4Next.calls a5 a6 a7 _ _ a2 b1 b4 h5 h6 h7 h8 _ ?s1 ?s2 C1.out).mono ?_); (case s1 => repeat (first | exact (Kd.V_reads' a8.out).2.2 | (with_reducible refine Kd.C_alloc ?_ _) | (with_reducible refine Kd.C_drewN ?_ _) | (with_reducible refine Kd.C_drew ?_))); (case s2 => exact (Kd.V_reads' a8.out).2.1); rintro e J7 ⟨J8, rfl, a4, hb⟩; refine ⟨_, rfl, ?_⟩; replace a8 := zA (Kd.V_elder' (zV a8.out) (Kd.R_base a4) hb); have m8 := zA (Kd.R_lower (Kd.R_newM (M := fun k_ => (w.heap.size ≤ k_)) a4 (below_size (zW HB.out)) (fun k_ h_ => h_)) (below_size (zW HB.out))); replace a1 := zb a1 hb; replace HB := zh HB hb; (try clear hb a4); obtain ⟨v5, v6, D5⟩ := Kd.R_slice m8.out; subst D5) | ((with_reducible refine gate_dst (N := 56) rfl ?_); refine zNl k75 75 56 (xs := ([(⟨4, (⟨h5, h6, h7, h8⟩ : S32)⟩ : S75)] : List (S75))) (inner := [.int .i64 4, .int .i64 h5, .int .i64 h6, .int .i64 h7, .slice v5 h8.length v6]) (ok := (fun k_ => (a9 k_ ∨ w.heap.size ≤ k_) ∧ k_ ≠ a3)) ((Reps.c5 (show Kd.FK k75 _ _ (⟨4, (⟨h5, h6, h7, h8⟩ : S32)⟩ : S75) [.int .i64 4, .int .i64 h5, .int .i64 h6, .int .i64 h7, .slice v5 h8.length v6] from (k75_mkF _ _ (⟨4, (⟨h5, h6, h7, h8⟩ : S32)⟩ : S75) (Kd.R_reads' (Kd.R_mono (ok' := (fun k_ => (a9 k_ ∨ w.heap.size ≤ k_) ∧ k_ ≠ a3)) (Kd.R_types (m8.out) a1.out (by decide)) (fun k_ hk => ⟨(.inr (hk.1.1)), hk.2⟩))).2.1 (Kd.R_F (Kd.R_mono (ok' := (fun k_ => (a9 k_ ∨ w.heap.size ≤ k_) ∧ k_ ≠ a3)) (Kd.R_types (m8.out) a1.out (by decide)) (fun k_ hk => ⟨(.inr (hk.1.1)), hk.2⟩))))) (Reps.none _ _))) (fun k_ hk => ⟨(.inr (Nat.le_trans (below_size (zW HB.out)) hk)), Kd.freshB (zK a1.out) k_ hk⟩) ?_; intro J9 L0 k4 hb hg_ hnew_; clear hg_ hnew_; (first | rw [← v4.out] at k4 | (simp only [Int.reduceToNat] at k4; rw [← v4.out] at k4)); replace a8 := zA (Kd.V_elder' (zV a8.out) (Kd.N_base k4) hb); have D6 := zA (Kd.N_lower k4 (below_size (zW HB.out))); replace a1 := zb a1 hb; replace HB := zh HB hb; clear m8; clear hb k4))
    go_ret
    exact ⟨_, zE, zNt (Kd.N_mono D6.out (fun _ hk => hk.1)), zW HB.out⟩
   have v1 := beq_eq_false_iff_ne.mpr h4; have v2 := bne_iff_ne.mpr h4; have o8 := zA H; clear H
   go_upto_region 14 with (fail)
   go_cut [57] (fun D7 wc => ∃ (kq : Nat) (o9 : Bool), D7 = .bool o9 ∧ Aside0 (spec_l4Make.j1 kq a0 (b1 == 3) o9 a5 a6 a7 a2 b1 b4 = some r) ∧ Aside0 (kq ≤ A3) ∧ Aside0 (Kd.V Kd.string 9 wc w.heap.size (fun k_ => (a9 k_ ∨ w.heap.size ≤ k_) ∧ k_ ≠ a3) (.slice b2 a2.length b3) a2) ∧ Aside0 (wc.heap[a3]? = some (.cells #[.int .i64 a5, .int .i64 a6, .int .i64 a7, (.slice b2 a2.length b3), .int .i64 b1, .bool b4] 169 (0, 0))) ∧ Aside0 (Below w.heap.size w wc))
   case first =>
    have H := o8.out; clear o8; replace H := zI1 H
    rcases H with ⟨h9, H⟩ | ⟨h9, H⟩
    ·have k5 := beq_iff_eq.mpr h9; have v7 := bne_eq_false_iff_eq.mpr h9; clear h9
     (first | rw [k5] | (simp only [i64_w, i32_w]; rw [k5]) | skip)
     have H' := zA H; clear H
     go_wp2
     go_meet
     case rel => exact ⟨_, ((b1 == 3)), zS, (by first | exact H' | (subst_vars; exact H')), ⟨by have := t9.out; first | omega | exact Nat.le_refl _⟩, ⟨zV a8.out⟩, ⟨zK a1.out⟩, ⟨zW HB.out⟩⟩
    have k5 := beq_eq_false_iff_ne.mpr h9; have v7 := bne_iff_ne.mpr h9
    (first | rw [k5] | (simp only [i64_w, i32_w]; rw [k5]) | skip)
    have H' := zA H; clear H
    go_wp2
    go_meet
    case rel => exact ⟨_, (false), zS, (by first | exact H' | (subst_vars; exact H')), ⟨by have := t9.out; first | omega | exact Nat.le_refl _⟩, ⟨zV a8.out⟩, ⟨zK a1.out⟩, ⟨zW HB.out⟩⟩
   case rest =>
    clear o8
    try clear c1
    try clear p2
    try clear c3
    try clear d3
    try clear d4
    try clear c4
    try clear c5
    try clear c6
    try clear c15
    try clear c17
    try clear d5
    try clear f2
    try clear f3
    try clear d6
    try clear k0
    try clear k1
    try clear d7
    try clear l2
    try clear l3
    try clear d8
    try clear h3
    try clear o5
    try clear c50
    try clear h4
    try clear v1
    try clear v2
    try clear h9
    try clear k5
    try clear v7
    try clear hcz23_0 hcz23_1 hcz23_2 hcz23_3 hcz23_4 hcz23_5 hfz23_0 hfz23_1 hfz23_2 hfz23_3 hfz23_4 hfz23_5
    try clear hcz36_0 hcz36_1 hcz36_2 hcz36_3 hcz36_4 hcz36_5 hfz36_0 hfz36_1 hfz36_2 hfz36_3 hfz36_4 hfz36_5
    try clear hcz43_0 hcz43_1 hcz43_2 hcz43_3 hcz43_4 hcz43_5 hfz43_0 hfz43_1 hfz43_2 hfz43_3 hfz43_4 hfz43_5
    try clear l4 l5 l6 l7 l8 l9 m0 m1 m2 m3 m4 m5
    try clear A8 A9 B0 B1 B2 B3 B4 B5 B6 B7 B8 B9
    try clear C3 C4 C5 C6 C7 C8 C9 D0 D1 D2 D3 D4
    try clear l4 l5 l6 l7 l8 l9 m0 m1 m2 m3 m4 m5
    try clear p2
    obtain ⟨kq, o9, rfl, HA, L1, a8, a1, HB⟩ := hcut
    cases kq with
    | zero => exact absurd HA.out (by simp [spec_l4Make.j1])
    | succ L2 =>
     have H := HA.out; clear HA; simp only [spec_l4Make.j1] at H; replace H := zB0 H
     rcases H with ⟨rfl, H⟩ | ⟨rfl, H⟩
     ·obtain ⟨D8, p0⟩ : ∃ y_ : List (S75), y_ = (([(⟨2, (⟨a5, a6, a7, a2⟩ : S32)⟩ : S75)] : List (S75))) := ⟨_, rfl⟩; replace H : (some D8) = some r := zY p0 H; have v8 := zA p0; clear p0; obtain rfl := zm H; obtain ⟨L3, L4, L5, L6, L7, L8, L9, M0, M1, M2, M3, M4⟩ := ze6 a1.out
      go_wp2_with (first | ((with_reducible refine gate_dst (N := 66) rfl ?_); refine zNl k75 75 66 (xs := ([(⟨2, (⟨a5, a6, a7, a2⟩ : S32)⟩ : S75)] : List (S75))) (inner := [.int .i64 2, .int .i64 a5, .int .i64 a6, .int .i64 a7, .slice b2 a2.length b3]) (ok := (fun k_ => (a9 k_ ∨ w.heap.size ≤ k_) ∧ k_ ≠ a3)) ((Reps.c5 (show Kd.FK k75 _ _ (⟨2, (⟨a5, a6, a7, a2⟩ : S32)⟩ : S75) [.int .i64 2, .int .i64 a5, .int .i64 a6, .int .i64 a7, .slice b2 a2.length b3] from (k75_mkF _ _ (⟨2, (⟨a5, a6, a7, a2⟩ : S32)⟩ : S75) (Kd.V_reads' (a8.out)).2.1 (Kd.V_F (a8.out)))) (Reps.none _ _))) (fun k_ hk => ⟨(.inr (Nat.le_trans (below_size (zW HB.out)) hk)), Kd.freshB (zK a1.out) k_ hk⟩) ?_; intro M5 M6 k6 hb hg_ hnew_; clear hg_ hnew_; (first | rw [← v8.out] at k6 | (simp only [Int.reduceToNat] at k6; rw [← v8.out] at k6)); replace a8 := zA (Kd.V_elder' (zV a8.out) (Kd.N_base k6) hb); have D9 := zA (Kd.N_lower k6 (below_size (zW HB.out))); replace a1 := zb a1 hb; replace HB := zh HB hb; clear hb k6))
      go_ret
      exact ⟨_, zE, zNt (Kd.N_mono D9.out (fun _ hk => hk.1)), zW HB.out⟩
     replace H := zI1 H
     rcases H with ⟨k7, H⟩ | ⟨k7, H⟩
     ·have E0 := beq_iff_eq.mpr k7; have E1 := bne_eq_false_iff_eq.mpr k7; clear k7; replace H := Option.bind_eq_some_iff.mp H; obtain ⟨⟨p1, p3, p4, k8⟩, v9, H⟩ := H
      try dsimp only at H
      have E2 := zA v9; clear v9; replace H := Option.bind_eq_some_iff.mp H; obtain ⟨⟨i0, i1, i2, i3, i4⟩, x0, H⟩ := H
      try dsimp only at H
      have E3 := zA x0; clear x0; obtain ⟨E4, p5⟩ : ∃ y_ : List (S75), y_ = (([(⟨i0, (⟨i1, i2, i3, i4⟩ : S32)⟩ : S75)] : List (S75))) := ⟨_, rfl⟩; replace H : (some E4) = some r := zY p5 H; have x1 := zA p5; clear p5; obtain rfl := zm H; obtain ⟨M7, M8, M9, N0, N1, N2, N3, N4, N5, N6, N7, N8⟩ := ze6 a1.out
      go_wp2_with (first | ((with_reducible refine zq 181 ?_); refine zg (some 71) Tryz.func181 #[.agg #[.int .i64 a5, .int .i64 a6, .int .i64 a7, .slice b2 a2.length b3, .int .i64 b1, .bool b4]] ?_; (with_reducible refine (spec_l4Next.calls a5 a6 a7 _ _ a2 b1 b4 p1 p3 p4 k8 _ ?s1 ?s2 E2.out).mono ?_); (case s1 => repeat (first | exact (Kd.V_reads' a8.out).2.2 | (with_reducible refine Kd.C_alloc ?_ _) | (with_reducible refine Kd.C_drewN ?_ _) | (with_reducible refine Kd.C_drew ?_))); (case s2 => exact (Kd.V_reads' a8.out).2.1); rintro e N9 ⟨O0, rfl, a4, hb⟩; refine ⟨_, rfl, ?_⟩; replace a8 := zA (Kd.V_elder' (zV a8.out) (Kd.R_base a4) hb); have c9 := zA (Kd.R_lower (Kd.R_newM (M := fun k_ => (w.heap.size ≤ k_)) a4 (below_size (zW HB.out)) (fun k_ h_ => h_)) (below_size (zW HB.out))); replace a1 := zb a1 hb; replace HB := zh HB hb; (try clear hb a4); obtain ⟨m9, n0, E5⟩ := Kd.R_slice c9.out; subst E5) | ((with_reducible refine zq 178 ?_); refine zg (some 72) Tryz.func178 #[.agg #[.int .i64 p1, .int .i64 p3, .int .i64 p4, .slice m9 k8.length n0]] ?_; (with_reducible refine (spec_l4Below.calls p1 p3 p4 _ _ k8 i0 i1 i2 i3 i4 _ ?s1 ?s2 E3.out).mono ?_); (case s1 => repeat (first | exact (Kd.R_reads' c9.out).2.2 | (with_reducible refine Kd.C_alloc ?_ _) | (with_reducible refine Kd.C_drewN ?_ _) | (with_reducible refine Kd.C_drew ?_))); (case s2 => exact (Kd.R_reads' c9.out).2.1); rintro e O1 ⟨O2, rfl, a4, hb⟩; refine ⟨_, rfl, ?_⟩; replace a8 := zA (Kd.V_elder' (zV a8.out) (Kd.R_base a4) hb); have n1 := zA (Kd.R_lower (Kd.R_new' (Kd.R_newM (M := fun k_ => (w.heap.size ≤ k_)) a4 (below_size (zW HB.out)) (fun k_ h_ => h_)) (Kd.R_lt (zR c9.out))) (below_size (zW HB.out))); replace c9 := zA (Kd.R_elder' (zR c9.out) (Kd.R_base a4) hb); replace a1 := zb a1 hb; replace HB := zh HB hb; (try clear hb a4); obtain ⟨x2, x3, E6⟩ := Kd.R_slice n1.out; subst E6) | ((with_reducible refine gate_dst (N := 73) rfl ?_); refine zNl k75 75 73 (xs := ([(⟨i0, (⟨i1, i2, i3, i4⟩ : S32)⟩ : S75)] : List (S75))) (inner := [.int .i64 i0, .int .i64 i1, .int .i64 i2, .int .i64 i3, .slice x2 i4.length x3]) (ok := (fun k_ => (a9 k_ ∨ w.heap.size ≤ k_) ∧ some k_ ≠ (.slice m9 k8.length n0 : Value).ownBlock ∧ k_ ≠ a3)) ((Reps.c5 (show Kd.FK k75 _ _ (⟨i0, (⟨i1, i2, i3, i4⟩ : S32)⟩ : S75) [.int .i64 i0, .int .i64 i1, .int .i64 i2, .int .i64 i3, .slice x2 i4.length x3] from (k75_mkF _ _ (⟨i0, (⟨i1, i2, i3, i4⟩ : S32)⟩ : S75) (Kd.R_reads' (Kd.R_mono (ok' := (fun k_ => (a9 k_ ∨ w.heap.size ≤ k_) ∧ some k_ ≠ (.slice m9 k8.length n0 : Value).ownBlock ∧ k_ ≠ a3)) (Kd.R_types (n1.out) a1.out (by decide)) (fun k_ hk => ⟨(.inr (hk.1.1.1)), ⟨hk.1.2, hk.2⟩⟩))).2.1 (Kd.R_F (Kd.R_mono (ok' := (fun k_ => (a9 k_ ∨ w.heap.size ≤ k_) ∧ some k_ ≠ (.slice m9 k8.length n0 : Value).ownBlock ∧ k_ ≠ a3)) (Kd.R_types (n1.out) a1.out (by decide)) (fun k_ hk => ⟨(.inr (hk.1.1.1)), ⟨hk.1.2, hk.2⟩⟩))))) (Reps.none _ _))) (fun k_ hk => ⟨(.inr (Nat.le_trans (below_size (zW HB.out)) hk)), Kd.fresh' (Kd.R_lt (zR c9.out)) k_ hk, Kd.freshB (zK a1.out) k_ hk⟩) ?_; intro O3 O4 k9 hb hg_ hnew_; clear hg_ hnew_; (first | rw [← x1.out] at k9 | (simp only [Int.reduceToNat] at k9; rw [← x1.out] at k9)); replace a8 := zA (Kd.V_elder' (zV a8.out) (Kd.N_base k9) hb); replace c9 := zr c9 hb; have E7 := zA (Kd.N_lower k9 (below_size (zW HB.out))); replace a1 := zb a1 hb; replace HB := zh HB hb; clear n1; clear hb k9))
      go_ret
      exact ⟨_, zE, zNt (Kd.N_mono E7.out (fun _ hk => hk.1)), zW HB.out⟩
     have E0 := beq_eq_false_iff_ne.mpr k7; have E1 := bne_iff_ne.mpr k7; replace H := zI1 H
     rcases H with ⟨b7, H⟩ | ⟨b7, H⟩
     ·have E8 : (b1 == 3) = true := b7
      (try (have E9 : decide (b1 = 3) = true := by simpa using b7))
      (try (have F0 : (b1 == 3) = true := by simpa using b7))
      clear b7; obtain ⟨F1, p6⟩ : ∃ y_ : List (S75), y_ = (([(⟨0, (⟨a5, a6, a7, a2⟩ : S32)⟩ : S75)] : List (S75))) := ⟨_, rfl⟩; replace H : (some F1) = some r := zY p6 H; have x4 := zA p6; clear p6; obtain rfl := zm H; obtain ⟨O5, O6, O7, O8, O9, P0, P1, P2, P3, P4, P5, P6⟩ := ze6 a1.out
      go_wp2_with (first | ((with_reducible refine gate_dst (N := 79) rfl ?_); refine zNl k75 75 79 (xs := ([(⟨0, (⟨a5, a6, a7, a2⟩ : S32)⟩ : S75)] : List (S75))) (inner := [.int .i64 0, .int .i64 a5, .int .i64 a6, .int .i64 a7, .slice b2 a2.length b3]) (ok := (fun k_ => (a9 k_ ∨ w.heap.size ≤ k_) ∧ k_ ≠ a3)) ((Reps.c5 (show Kd.FK k75 _ _ (⟨0, (⟨a5, a6, a7, a2⟩ : S32)⟩ : S75) [.int .i64 0, .int .i64 a5, .int .i64 a6, .int .i64 a7, .slice b2 a2.length b3] from (k75_mkF _ _ (⟨0, (⟨a5, a6, a7, a2⟩ : S32)⟩ : S75) (Kd.V_reads' (a8.out)).2.1 (Kd.V_F (a8.out)))) (Reps.none _ _))) (fun k_ hk => ⟨(.inr (Nat.le_trans (below_size (zW HB.out)) hk)), Kd.freshB (zK a1.out) k_ hk⟩) ?_; intro P7 P8 l0 hb hg_ hnew_; clear hg_ hnew_; (first | rw [← x4.out] at l0 | (simp only [Int.reduceToNat] at l0; rw [← x4.out] at l0)); replace a8 := zA (Kd.V_elder' (zV a8.out) (Kd.N_base l0) hb); have F2 := zA (Kd.N_lower l0 (below_size (zW HB.out))); replace a1 := zb a1 hb; replace HB := zh HB hb; clear hb l0))
      go_ret
      exact ⟨_, zE, zNt (Kd.N_mono F2.out (fun _ hk => hk.1)), zW HB.out⟩
     have E8 : (b1 == 3) = false := by simpa using b7
     (try (have E9 : decide (b1 = 3) = false := by simpa using b7))
     (try (have F0 : (b1 == 3) = false := by simpa using b7))
     (try (have P9 : ¬ (b1 = 3) := by simpa using b7))
     clear b7; replace H := Option.bind_eq_some_iff.mp H; obtain ⟨⟨i5, i6, i7, i8, i9⟩, x5, H⟩ := H
     try dsimp only at H
     have F3 := zA x5; clear x5; replace H := Option.bind_eq_some_iff.mp H; obtain ⟨⟨p7, p8, p9, d0⟩, x6, H⟩ := H
     try dsimp only at H
     have F4 := zA x6; clear x6; replace H := Option.bind_eq_some_iff.mp H; obtain ⟨⟨j2, j3, j4, j5, j6⟩, x7, H⟩ := H
     try dsimp only at H
     have F5 := zA x7; clear x7; obtain ⟨F6, q0⟩ : ∃ y_ : List (S75), y_ = (([(⟨i5, (⟨i6, i7, i8, i9⟩ : S32)⟩ : S75), (⟨j2, (⟨j3, j4, j5, j6⟩ : S32)⟩ : S75)] : List (S75))) := ⟨_, rfl⟩; replace H : (some F6) = some r := zY q0 H; have x8 := zA q0; clear q0; obtain rfl := zm H
     try go_wp2
     replace a8 := zA (Kd.V_drew a8.out); replace a1 := zA (blk_drew a1.out); replace HB := zA (below_drew1 HB.out)
     refine start_ (n := 7) (S := fun w' => w'.cell? ⟨a3, 0, none⟩ = some (.int .i64 a5) ∧ w'.cell? ⟨a3, 1, none⟩ = some (.int .i64 a6) ∧ w'.cell? ⟨a3, 2, none⟩ = some (.int .i64 a7) ∧ w'.cell? ⟨a3, 3, none⟩ = some (.slice b2 a2.length b3) ∧ w'.cell? ⟨a3, 4, none⟩ = some (.int .i64 b1) ∧ w'.cell? ⟨a3, 5, none⟩ = some (.bool b4)) (ds := []) (Array.replicate 7 false) (by kernel_rfl) rfl rfl zO fun hHeld => ?_
     generalize wc.drew = Q0 at a8 a1 HB hHeld ⊢; refine zt 0 80 ?_; refine zt 2 82 ?_
     refine zo 1 (some 81) fun K hK => ?_
     refine goes_ Tryz.func177 (by kernel_rfl) rfl #[.agg #[.int .i64 a5, .int .i64 a6, .int .i64 a7, .slice b2 a2.length b3, .int .i64 b1, .bool b4]] (by rfl) rfl rfl zM ?_
     with_reducible refine (spec_l4From.calls a5 a6 a7 (fun k_ => ((a9 k_ ∨ w.heap.size ≤ k_) ∧ k_ ≠ a3)) _ _ a2 b1 b4 i5 i6 i7 i8 i9 _ ?s1 F3.out).mono ?_
     (case s1 => exact a8.out)
     rintro e Q1 ⟨Q2, rfl, a4, hb⟩
     refine ⟨_, rfl, ?_⟩
     replace a8 := zA (Kd.V_below (zV a8.out) hb); have d1 := zA (Kd.V_lower (Kd.V_mono (ok' := fun k_ => (a9 k_ ∨ w.heap.size ≤ k_) ∧ k_ ≠ a3) a4 (fun k_ hk_ => ⟨Or.elim hk_ (fun hs_ => hs_.1) (fun hn_ => (.inr (Nat.le_trans (below_size (zW HB.out)) hn_))), Or.elim hk_ (fun hs_ => hs_.2) (fun hn_ => (Kd.freshB (zK a1.out) k_ hn_))⟩)) (below_size (zW HB.out))); replace a1 := zb a1 hb; replace HB := zh HB hb
     (try clear hb a4)
     refine hK.out _ _ zO fun hHeld => ?_
     clear hK K; refine zn ?_
     refine zo 3 (some 83) fun K hK => ?_
     refine goes_ Tryz.func181 (by kernel_rfl) rfl #[.agg #[.int .i64 a5, .int .i64 a6, .int .i64 a7, .slice b2 a2.length b3, .int .i64 b1, .bool b4]] (by rfl) rfl rfl zM ?_
     with_reducible refine (spec_l4Next.calls a5 a6 a7 _ _ a2 b1 b4 p7 p8 p9 d0 _ ?s1 ?s2 F4.out).mono ?_
     (case s1 => repeat (first | exact (Kd.V_reads' a8.out).2.2 | (with_reducible refine Kd.C_alloc ?_ _) | (with_reducible refine Kd.C_drewN ?_ _) | (with_reducible refine Kd.C_drew ?_)))
     (case s2 => exact (Kd.V_reads' a8.out).2.1)
     rintro e Q3 ⟨Q4, rfl, a4, hb⟩
     refine ⟨_, rfl, ?_⟩
     replace a8 := zA (Kd.V_elder' (zV a8.out) (Kd.R_base a4) hb); replace d1 := zA (Kd.V_elder' (zV d1.out) (Kd.R_base a4) hb); have d2 := zA (Kd.R_lower (Kd.R_newM (M := fun k_ => (w.heap.size ≤ k_)) a4 (below_size (zW HB.out)) (fun k_ h_ => h_)) (below_size (zW HB.out))); replace a1 := zb a1 hb; replace HB := zh HB hb
     (try clear hb a4)
     obtain ⟨j7, j8, x9⟩ := Kd.R_slice d2.out
     (first | subst x9 | (injection x9 with f1_ f2_ f3_; have b5 := f1_.symm; have b6 := f3_.symm; clear f1_ f2_ f3_; subst b5; subst b6))
     refine hK.out _ _ zO fun hHeld => ?_
     clear hK K; refine zn ?_
     refine zo 4 (some 84) fun K hK => ?_
     refine goes_ Tryz.func178 (by kernel_rfl) rfl #[.agg #[.int .i64 p7, .int .i64 p8, .int .i64 p9, .slice j7 d0.length j8]] (by rfl) rfl rfl zM ?_
     with_reducible refine (spec_l4Below.calls p7 p8 p9 _ _ d0 j2 j3 j4 j5 j6 _ ?s1 ?s2 F5.out).mono ?_
     (case s1 => repeat (first | exact (Kd.R_reads' d2.out).2.2 | (with_reducible refine Kd.C_alloc ?_ _) | (with_reducible refine Kd.C_drewN ?_ _) | (with_reducible refine Kd.C_drew ?_)))
     (case s2 => exact (Kd.R_reads' d2.out).2.1)
     rintro e F7 ⟨Q5, rfl, a4, hb⟩
     refine ⟨_, rfl, ?_⟩
     replace a8 := zA (Kd.V_elder' (zV a8.out) (Kd.R_base a4) hb); replace d1 := zA (Kd.V_elder' (zV d1.out) (Kd.R_base a4) hb); have n2 := zA (Kd.R_lower (Kd.R_new' (Kd.R_newM (M := fun k_ => (w.heap.size ≤ k_)) a4 (below_size (zW HB.out)) (fun k_ h_ => h_)) (Kd.R_lt (zR d2.out))) (below_size (zW HB.out))); replace d2 := zA (Kd.R_elder' (zR d2.out) (Kd.R_base a4) hb); replace a1 := zb a1 hb; replace HB := zh HB hb
     (try clear hb a4)
     obtain ⟨y0, y1, y2⟩ := Kd.V_slice d1.out
     (first | subst y2 | (injection y2 with f1_ f2_ f3_; have b5 := f1_.symm; have b6 := f3_.symm; clear f1_ f2_ f3_; subst b5; subst b6))
     obtain ⟨y3, y4, y5⟩ := Kd.R_slice n2.out
     (first | subst y5 | (injection y5 with f1_ f2_ f3_; have b5 := f1_.symm; have b6 := f3_.symm; clear f1_ f2_ f3_; subst b5; subst b6))
     refine hK.out _ _ zO fun hHeld => ?_
     clear hK K; refine zn ?_
     refine zo 5 (some 85) fun K hK => ?_
     refine Kd.N_lit_step k75 _ 75 ?hg (N' := 85) ?hd (xs := ([(⟨i5, (⟨i6, i7, i8, i9⟩ : S32)⟩ : S75), (⟨j2, (⟨j3, j4, j5, j6⟩ : S32)⟩ : S75)] : List (S75))) (inner := [.int .i64 i5, .int .i64 i6, .int .i64 i7, .int .i64 i8, .slice y0 i9.length y1, .int .i64 j2, .int .i64 j3, .int .i64 j4, .int .i64 j5, .slice y3 j6.length y4]) (ok := (fun k_ => (a9 k_ ∨ w.heap.size ≤ k_) ∧ some k_ ≠ (.slice j7 d0.length j8 : Value).ownBlock ∧ k_ ≠ a3)) ?hr ?hp (fun _ hk => hk) ((show ∀ k_, F7.heap.size ≤ k_ → (fun k_ => (a9 k_ ∨ w.heap.size ≤ k_) ∧ some k_ ≠ (.slice j7 d0.length j8 : Value).ownBlock ∧ k_ ≠ a3) k_ from fun k_ hk => ⟨(.inr (Nat.le_trans (below_size (zW HB.out)) hk)), Kd.fresh' (Kd.R_lt (zR d2.out)) k_ hk, Kd.freshB (zK a1.out) k_ hk⟩) _ (Nat.le_refl _)) (Below.refl _ _) (Nat.le_refl _) (by simp) ?_; (case hd => rfl); (case hg => rfl); (case hr => first | (go_simp; done) | (go_simp; rfl)); (case hp => exact (Reps.c5 (show Kd.FK k75 _ _ (⟨i5, (⟨i6, i7, i8, i9⟩ : S32)⟩ : S75) [.int .i64 i5, .int .i64 i6, .int .i64 i7, .int .i64 i8, .slice y0 i9.length y1] from (k75_mkF _ _ (⟨i5, (⟨i6, i7, i8, i9⟩ : S32)⟩ : S75) (Kd.V_reads' (Kd.V_mono (ok' := (fun k_ => (a9 k_ ∨ w.heap.size ≤ k_) ∧ some k_ ≠ (.slice j7 d0.length j8 : Value).ownBlock ∧ k_ ≠ a3)) (d1.out) (fun k_ hk => ⟨hk.1.1.1, ⟨hk.1.2, hk.1.1.2⟩⟩))).2.1 (Kd.V_F (Kd.V_mono (ok' := (fun k_ => (a9 k_ ∨ w.heap.size ≤ k_) ∧ some k_ ≠ (.slice j7 d0.length j8 : Value).ownBlock ∧ k_ ≠ a3)) (d1.out) (fun k_ hk => ⟨hk.1.1.1, ⟨hk.1.2, hk.1.1.2⟩⟩))))) (Reps.c5 (show Kd.FK k75 _ _ (⟨j2, (⟨j3, j4, j5, j6⟩ : S32)⟩ : S75) [.int .i64 j2, .int .i64 j3, .int .i64 j4, .int .i64 j5, .slice y3 j6.length y4] from (k75_mkF _ _ (⟨j2, (⟨j3, j4, j5, j6⟩ : S32)⟩ : S75) (Kd.R_reads' (Kd.R_mono (ok' := (fun k_ => (a9 k_ ∨ w.heap.size ≤ k_) ∧ some k_ ≠ (.slice j7 d0.length j8 : Value).ownBlock ∧ k_ ≠ a3)) (Kd.R_types (n2.out) a1.out (by decide)) (fun k_ hk => ⟨(.inr (hk.1.1.1)), ⟨hk.1.2, hk.2⟩⟩))).2.1 (Kd.R_F (Kd.R_mono (ok' := (fun k_ => (a9 k_ ∨ w.heap.size ≤ k_) ∧ some k_ ≠ (.slice j7 d0.length j8 : Value).ownBlock ∧ k_ ≠ a3)) (Kd.R_types (n2.out) a1.out (by decide)) (fun k_ hk => ⟨(.inr (hk.1.1.1)), ⟨hk.1.2, hk.2⟩⟩))))) (Reps.none _ _))))
     intro Q6 Q7 j9 hb hg_ hnew_
     clear hg_ hnew_
     (first | rw [← x8.out] at j9 | (simp only [Int.reduceToNat] at j9; rw [← x8.out] at j9))
     replace a8 := zA (Kd.V_elder' (zV a8.out) (Kd.N_base j9) hb); replace d1 := zA (Kd.V_elder' (zV d1.out) (Kd.N_base j9) hb); replace d2 := zr d2 hb; have F8 := zA (Kd.N_lower j9 (below_size (zW HB.out))); replace a1 := zb a1 hb; replace HB := zh HB hb; clear n2; clear hb j9
     refine hK.out _ _ zO fun hHeld => ?_
     clear hK K; refine zn ?_; refine zp 6 4 ?_
     refine done_ (by kernel_rfl) ?_
     try go_wp2
     go_ret
     exact ⟨_, zE, zNt (Kd.N_mono F8.out (fun _ hk => hk.1)), zW HB.out⟩
/-! ### spec_l4Word: function 125 -/
mutual
def spec_l4Word.j0 : Nat → ByteArray → Option ((List (S75)) × Bool)
 | 0, _ => none
 | k + 1, x0 => spec_l4Word.l0 k x0 (([(⟨#[94]⟩ : ByteArray), (⟨#[126]⟩ : ByteArray), (⟨#[62, 61]⟩ : ByteArray), (⟨#[62]⟩ : ByteArray), (⟨#[60, 61]⟩ : ByteArray), (⟨#[60]⟩ : ByteArray), (⟨#[61]⟩ : ByteArray), (⟨#[]⟩ : ByteArray)] : List ByteArray)) 0
def spec_l4Word.l0 : Nat → ByteArray → List ByteArray → Int → Option ((List (S75)) × Bool)
 | 0, _, _, _ => none
 | k + 1, x0, x4, x5 => if x5 < (x4.length : Int) then (spec_l4Word.j2 k x0 x4 x5) else (some ((([] : List (S75))), false))
def spec_l4Word.j2 : Nat → ByteArray → List ByteArray → Int → Option ((List (S75)) × Bool)
 | 0, _, _, _ => none
 | k + 1, x0, x4, x5 => if 0 ≤ x5 then (if x5 < (x4.length : Int) then (if (x0.size : Int) ≥ ((rdOf ByteArray.empty x4 x5).size : Int) then (if 0 ≤ ((rdOf ByteArray.empty x4 x5).size : Int) then (if ((rdOf ByteArray.empty x4 x5).size : Int) ≤ (x0.size : Int) then (spec_l4Word.j3 k x0 x4 x5 ((rdOf ByteArray.empty x4 x5).size : Int) ((x0.extract 0 (((rdOf ByteArray.empty x4 x5).size : Int) : Int).toNat).toList == (rdOf ByteArray.empty x4 x5).toList)) else (none)) else (none)) else (spec_l4Word.j3 k x0 x4 x5 ((rdOf ByteArray.empty x4 x5).size : Int) false)) else (none)) else (none)
def spec_l4Word.j3 : Nat → ByteArray → List ByteArray → Int → Int → Bool → Option ((List (S75)) × Bool)
 | 0, _, _, _, _, _ => none
 | k + 1, x0, x4, x5, x6, a1 => if a1 = true then (if 0 ≤ x6 then (if x6 ≤ (x0.size : Int) then ((spec_l4Read.f k (x0.extract (x6 : Int).toNat x0.size)).bind fun a0 => (if a0.2.2.2.2.2 = true then (if 0 ≤ x5 then (if x5 < (x4.length : Int) then ((spec_l4Make.f k (rdOf ByteArray.empty x4 x5) a0.1 a0.2.1 a0.2.2.1 a0.2.2.2.1 a0.2.2.2.2.1 a0.2.2.2.2.2).bind fun a2 => (some (a2, true))) else (none)) else (none)) else (some ((([] : List (S75))), false)))) else (none)) else (none)) else (spec_l4Word.l0 k x0 x4 (wrap64 (x5 + 1)))
end
def spec_l4Word.f (k : Nat) (a0 : ByteArray) : Option ((List (S75)) × Bool) := if a0.toList = ([42] : List UInt8) then (some ((([(⟨4, (⟨0, 0, 0, ([] : List ByteArray)⟩ : S32)⟩ : S75)] : List (S75))), true)) else (spec_l4Word.j0 k a0)
def spec_l4Word.T8 : Bool × List (List Nat × List Nat) := (true, [([], []), ([0], [0]), ([], []), ([1, 2], [1, 2]), ([3], [3]), ([4], [4]), ([4], [4]), ([5, 6, 4], [4, 5, 6]), ([4], [4]), ([4], [4]), ([8, 9, 4], [4, 8, 9]), ([10, 4], [4, 10]), ([7, 11, 4], [4, 7, 11]), ([4, 12], [4, 12])])
def spec_l4Word.B8 : List Nat := [0, 1, 0, 7, 15, 31, 31, 127, 31, 31, 799, 1823, 4095, 8191]
theorem spec_l4Word.tab8 : rtab .any (opsOf Tryz.f125 8) = spec_l4Word.T8 := by kernel_rfl
theorem spec_l4Word.bits8 : waitsOk spec_l4Word.T8.2 spec_l4Word.B8 = true := by kernel_rfl
def spec_l4Word.T12 : Bool × List (List Nat × List Nat) := (true, [([], []), ([], []), ([0, 1], [0, 1]), ([2], [2]), ([], []), ([3, 4], [3, 4]), ([5, 5, 0, 1, 2, 3, 4, 5], [5]), ([6, 0, 1, 2, 3, 4, 5, 6], [])])
def spec_l4Word.B12 : List Nat := [0, 0, 3, 7, 0, 31, 63, 127]
theorem spec_l4Word.tab12 : rtab .any (opsOf Tryz.f125 12) = spec_l4Word.T12 := by kernel_rfl
theorem spec_l4Word.bits12 : waitsOk spec_l4Word.T12.2 spec_l4Word.B12 = true := by kernel_rfl
theorem spec_l4Word.calls (k : Nat) (a0 : ByteArray) (r1 : List (S75)) (r2 : Bool) (w : World) (h : spec_l4Word.f k a0 = some (r1, r2)) :
  Calls Tryz.prog 125 #[.string a0] w fun e w' => ∃ f6 : Value, e = .returned (.tuple #[f6, .bool r2]) ∧ Kd.N k75 75 w' w.heap.size (fun k_ => (w.heap.size ≤ k_)) f6 r1 ∧ Below w.heap.size w w' := by
 have k6 := Tryz.underlying75
 have k7 := Tryz.underlying169
 have HB := zA (Below.refl w.heap.size w)
 unfold spec_l4Word.f at h
 have H := h
 clear h
 have e1 := zA H
 clear H
 go_enter Tryz.func125, Tryz.ntmps125
 go_upto_if 9 with (fail)
 go_cut [] (fun wc => ∃ (kq : Nat), Aside0 (spec_l4Word.j0 kq a0 = some (r1, r2)) ∧ Aside0 (kq ≤ k) ∧ Aside0 (Below w.heap.size w wc))
 case first =>
  have H := e1.out; clear e1; replace H := zI1 H
  rcases H with ⟨c3, H⟩ | ⟨c3, H⟩
  ·have b0 := beq_iff_eq.mpr c3; have c2 := bne_eq_false_iff_eq.mpr c3; clear c3
   (first | rw [b0] | (simp only [i64_w, i32_w]; rw [b0]) | skip)
   obtain ⟨g8, e2⟩ : ∃ y_ : List (S75), y_ = (([(⟨4, (⟨0, 0, 0, ([] : List ByteArray)⟩ : S32)⟩ : S75)] : List (S75))) := ⟨_, rfl⟩; replace H : (some (g8, true)) = some (r1, r2) := zY e2 H; have f7 := zA e2; clear e2; simp only [zU] at H; obtain ⟨rfl, rfl⟩ := H
   go_wp2_with (first | ((with_reducible refine gate_dst (N := 11) rfl ?_); refine zNl k75 75 11 (xs := ([(⟨4, (⟨0, 0, 0, ([] : List ByteArray)⟩ : S32)⟩ : S75)] : List (S75))) (inner := [.int .i64 4, .int .i64 0, .int .i64 0, .int .i64 0, .slice none 0 0]) (ok := (fun k_ => (w.heap.size ≤ k_))) ((Reps.c5 (show Kd.FK k75 _ _ (⟨4, (⟨0, 0, 0, ([] : List ByteArray)⟩ : S32)⟩ : S75) [.int .i64 4, .int .i64 0, .int .i64 0, .int .i64 0, .slice none 0 0] from (k75_mkF _ _ (⟨4, (⟨0, 0, 0, ([] : List ByteArray)⟩ : S32)⟩ : S75) (Nat.le_refl _) (Kd.F_nil _ _ _))) (Reps.none _ _))) (fun k_ hk => (Nat.le_trans (below_size (zB)) hk)) ?_; intro k8 w4 c4 hb hg_ hnew_; clear hg_ hnew_; (first | rw [← f7.out] at c4 | (simp only [Int.reduceToNat] at c4; rw [← f7.out] at c4)); have g9 := zA (Kd.N_lower c4 (below_size (zB))); replace HB := zA (below_step (zB) hb); clear hb c4))
   go_ret2
   exact ⟨_, zE, zN g9.out, zB⟩
  have b0 := beq_eq_false_iff_ne.mpr c3; have c2 := bne_iff_ne.mpr c3
  (first | rw [b0] | (simp only [i64_w, i32_w]; rw [b0]) | skip)
  have H' := zA H; clear H
  go_wp2
  go_meet
  case rel => exact ⟨_, (by first | exact H' | (subst_vars; exact H')), ⟨by first | omega | exact Nat.le_refl _⟩, ⟨zB⟩⟩
 case rest =>
  clear e1
  try clear c1
  try clear p2
  try clear c3
  try clear b0
  try clear c2
  try clear c5
  obtain ⟨kq, HA, c6, HB⟩ := hcut
  cases kq with
  | zero => exact absurd HA.out (by simp [spec_l4Word.j0])
  | succ e3 =>
   have H := HA.out; clear HA; simp only [spec_l4Word.j0] at H; obtain ⟨a2, e4⟩ : ∃ y_ : List ByteArray, y_ = (([(⟨#[94]⟩ : ByteArray), (⟨#[126]⟩ : ByteArray), (⟨#[62, 61]⟩ : ByteArray), (⟨#[62]⟩ : ByteArray), (⟨#[60, 61]⟩ : ByteArray), (⟨#[60]⟩ : ByteArray), (⟨#[61]⟩ : ByteArray), (⟨#[]⟩ : ByteArray)] : List ByteArray)) := ⟨_, rfl⟩; replace H : (spec_l4Word.l0 e3 a0 a2 0) = some (r1, r2) := zY e4 H; have f8 := zA e4; clear e4; have H' := zA H; clear H
   go_wp2_with (first | ((with_reducible refine gate_dst (N := 12) rfl ?_); refine Kd.R_lit Kd.string _ 9 ?hg (N := 12) ?hd (xs := ([(⟨#[94]⟩ : ByteArray), (⟨#[126]⟩ : ByteArray), (⟨#[62, 61]⟩ : ByteArray), (⟨#[62]⟩ : ByteArray), (⟨#[60, 61]⟩ : ByteArray), (⟨#[60]⟩ : ByteArray), (⟨#[61]⟩ : ByteArray), (⟨#[]⟩ : ByteArray)] : List ByteArray)) (inner := [.string (⟨#[94]⟩ : ByteArray), .string (⟨#[126]⟩ : ByteArray), .string (⟨#[62, 61]⟩ : ByteArray), .string (⟨#[62]⟩ : ByteArray), .string (⟨#[60, 61]⟩ : ByteArray), .string (⟨#[60]⟩ : ByteArray), .string (⟨#[61]⟩ : ByteArray), .string (⟨#[]⟩ : ByteArray)]) (ok := fun _ => True) ?hr ?hp (fun _ hk => hk) trivial (Below.refl _ _) (Nat.le_refl _) (by simp) ?_; (case hd => rfl); (case hg => rfl); (case hr => first | (go_simp; done) | (go_simp; rfl)); (case hp => exact (Reps.one (show Kd.M Kd.string _ _ _ (⟨#[94]⟩ : ByteArray) [.string (⟨#[94]⟩ : ByteArray)] from rfl) (Reps.one (show Kd.M Kd.string _ _ _ (⟨#[126]⟩ : ByteArray) [.string (⟨#[126]⟩ : ByteArray)] from rfl) (Reps.one (show Kd.M Kd.string _ _ _ (⟨#[62, 61]⟩ : ByteArray) [.string (⟨#[62, 61]⟩ : ByteArray)] from rfl) (Reps.one (show Kd.M Kd.string _ _ _ (⟨#[62]⟩ : ByteArray) [.string (⟨#[62]⟩ : ByteArray)] from rfl) (Reps.one (show Kd.M Kd.string _ _ _ (⟨#[60, 61]⟩ : ByteArray) [.string (⟨#[60, 61]⟩ : ByteArray)] from rfl) (Reps.one (show Kd.M Kd.string _ _ _ (⟨#[60]⟩ : ByteArray) [.string (⟨#[60]⟩ : ByteArray)] from rfl) (Reps.one (show Kd.M Kd.string _ _ _ (⟨#[61]⟩ : ByteArray) [.string (⟨#[61]⟩ : ByteArray)] from rfl) (Reps.one (show Kd.M Kd.string _ _ _ (⟨#[]⟩ : ByteArray) [.string (⟨#[]⟩ : ByteArray)] from rfl) (Reps.none _ _)))))))))); intro h0 w6 c7 hb hg_ hnew_; clear hg_ hnew_; (first | rw [← f8.out] at c7 | (simp only [Int.reduceToNat] at c7; rw [← f8.out] at c7)); have h1 := zA (Kd.R_lower (Kd.R_newM (M := fun k_ => (w.heap.size ≤ k_)) c7 (below_size (zB)) (fun k_ h_ => h_)) (below_size (zB))); replace HB := zA (below_step (zB) hb); clear hb c7))
   go_loopg [5] e3 (fun kq v5 w' => ∃ (a3 : Int), v5 = .int .i64 a3 ∧ Aside0 (spec_l4Word.l0 kq a0 a2 a3 = some (r1, r2)) ∧ Aside0 (kq ≤ e3) ∧ Aside0 (Kd.R Kd.string 9 w' w.heap.size (fun k_ => (w.heap.size ≤ k_)) h0 a2) ∧ Aside0 (Below w.heap.size w w'))
   case atStart => exact ⟨(0), zS, H', ⟨Nat.le_refl _⟩, ⟨zR (Kd.R_mono h1.out (fun _ hk => hk.1))⟩, ⟨zB⟩⟩
   case round =>
    clear H'
    try clear c1
    try clear p2
    try clear c3
    try clear b0
    try clear c2
    try clear c5
    try clear p2
    obtain ⟨a3, rfl, HA, c8, a1, HB⟩ := hrel
    cases gk with
    | zero => exact absurd HA.out (by simp [spec_l4Word.l0])
    | succ k2 =>
     have H := HA.out; clear HA; simp only [spec_l4Word.l0] at H; have e5 := zA H; clear H; obtain ⟨f9, b1, h2⟩ := Kd.R_slice a1.out; subst h2
     go_upto_if 16 with (fail)
     go_cut [] (fun wc => ∃ (kq : Nat), Aside0 (spec_l4Word.j2 kq a0 a2 a3 = some (r1, r2)) ∧ Aside0 (kq ≤ k2) ∧ Aside0 (Kd.R Kd.string 9 wc w.heap.size (fun k_ => (w.heap.size ≤ k_)) (.slice f9 a2.length b1) a2) ∧ Aside0 (Below w.heap.size w wc))
     case first =>
      have H := e5.out; clear e5; replace H := zI0 H
      rcases H with ⟨b3, H⟩ | ⟨b3, H⟩
      ·(first | rw [b3] | (simp only [i64_w, i32_w]; rw [b3]) | skip)
       have H' := zA H; clear H
       go_wp2
       go_meet
       case rel => exact ⟨_, (by first | exact H' | (subst_vars; exact H')), ⟨by have := c6.out; have := c8.out; first | omega | exact Nat.le_refl _⟩, ⟨zR a1.out⟩, ⟨zB⟩⟩
      (first | rw [b3] | (simp only [i64_w, i32_w]; rw [b3]) | skip)
      obtain ⟨h3, e6⟩ : ∃ y_ : List (S75), y_ = (([] : List (S75))) := ⟨_, rfl⟩; replace H : (some (h3, false)) = some (r1, r2) := zY e6 H; have g0 := zA e6; clear e6; simp only [zU] at H; obtain ⟨rfl, rfl⟩ := H
      go_wp2_with (first | ((with_reducible refine gate_dst (N := 52) rfl ?_); refine zNl k75 75 52 (xs := ([] : List (S75))) (inner := []) (ok := (fun k_ => (w.heap.size ≤ k_) ∧ some k_ ≠ (.slice f9 a2.length b1 : Value).ownBlock)) ((Reps.none _ _)) (fun k_ hk => ⟨(Nat.le_trans (below_size (zB)) hk), Kd.fresh' (Kd.R_lt (zR a1.out)) k_ hk⟩) ?_; intro k9 l1 c9 hb hg_ hnew_; clear hg_ hnew_; (first | rw [← g0.out] at c9 | (simp only [Int.reduceToNat] at c9; rw [← g0.out] at c9)); replace a1 := zr a1 hb; have h4 := zA (Kd.N_lower c9 (below_size (zB))); replace HB := zA (below_step (zB) hb); clear hb c9))
      go_ret2
      exact ⟨_, zE, zNt (Kd.N_mono h4.out (fun _ hk => hk.1)), zB⟩
     case rest =>
      clear e5
      try clear c1
      try clear p2
      try clear c3
      try clear b0
      try clear c2
      try clear c5
      try clear c10
      try clear b3
      try clear c12
      try clear p2
      obtain ⟨kq, HA, d1, a1, HB⟩ := hcut
      cases kq with
      | zero => exact absurd HA.out (by simp [spec_l4Word.j2])
      | succ h5 =>
       have H := HA.out; clear HA; simp only [spec_l4Word.j2] at H; replace H := zD0 H; obtain ⟨h6, H⟩ := H; replace H := zD0 H; obtain ⟨h7, H⟩ := H; have e7 := zA H; clear H; have d2 : 0 ≤ (a3 : Int) := zD; have d3 : a3 < (a2.length : Int) := zD; obtain ⟨a8, h8, h9⟩ := Kd.at_string (Kd.R_reads' a1.out).2.2 a3 d2 d3; cases h8; replace d2 := eq_true d2; replace d3 := eq_true d3
       go_upto_region 8 with (fail)
       go_cut [37] (fun i0 wc => ∃ (kq : Nat) (e8 : Bool), i0 = .bool e8 ∧ Aside0 (spec_l4Word.j3 kq a0 a2 a3 ((rdOf ByteArray.empty a2 a3).size : Int) e8 = some (r1, r2)) ∧ Aside0 (kq ≤ h5) ∧ Aside0 (Kd.R Kd.string 9 wc w.heap.size (fun k_ => (w.heap.size ≤ k_)) (.slice (some a8) a2.length b1) a2) ∧ Aside0 (Below w.heap.size w wc))
       case first =>
        have H := e7.out; clear e7; replace H := zI1 H
        rcases H with ⟨b2, H⟩ | ⟨b2, H⟩
        ·have b8 : decide (((rdOf ByteArray.empty a2 a3).size : Int) ≤ (a0.size : Int)) = true := decide_eq_true b2; have g1 : decide ((rdOf ByteArray.empty a2 a3).size ≤ a0.size) = true := decide_eq_true (Int.ofNat_le.mp b2); clear b2
         (first | rw [b8] | (simp only [i64_w, i32_w]; rw [b8]) | skip)
         replace H := zC0 H; obtain ⟨d4, H⟩ := H; have i1 := eq_true d4; have i2 := decide_eq_true d4; clear d4; replace H := zC0 H; obtain ⟨d5, H⟩ := H; have i3 := eq_true d5; have i4 := decide_eq_true d5; clear d5; have H' := zA H; clear H
         try go_wp2
         replace a1 := zA (Kd.R_drew a1.out); replace HB := zA (below_drew1 HB.out); have d6 : 0 ≤ (a3 : Int) := zD; have d7 : a3 < (a2.length : Int) := zD; obtain ⟨i5, i6, e9⟩ := Kd.at_string (Kd.R_reads' a1.out).2.2 a3 d6 d7; obtain rfl : a8 = i5 := (by injection i6); replace d6 := eq_true d6; replace d7 := eq_true d7
         refine start_ (n := 14) (S := fun w' => w'.cell? (a8.add (a3).toNat) = some (.string (rdOf ByteArray.empty a2 a3))) (ds := []) (Array.replicate 14 false) (by kernel_rfl) rfl rfl (e9) (fun hHeld => ?_); refine with_tabW spec_l4Word.tab8 spec_l4Word.bits8 (fun HT_ HW_ => ?_)
         generalize wc.drew = l2 at a1 HB e9 hHeld ⊢; refine zp 0 24 ?_; refine zp 1 25 ?_; refine zp 2 26 ?_; refine zp 3 27 ?_; refine zp 4 28 ?_; refine zp 5 29 ?_; refine zp 6 30 ?_; refine zp 7 31 ?_; refine zp 8 32 ?_; refine zp 9 33 ?_; refine zp 10 34 ?_
         refine take_ (i := 11) (N := some 35) (v := ?_) (a' := ?_) #[true, true, true, true, true, true, true, true, true, true, true, true, false, false] rfl rfl (take_ofW HT_.out HW_.out (by kernel_rfl)) (fun _ _ _ h => h) (Or.inl ⟨by rfl, ?_⟩) hHeld ?_ ?_
         rotate_left
         ·intro w' s0
          go_simp
          with_reducible rfl
         rotate_left
         ·simp only [Act.put, zT, i64_w, i32_w]
          rfl
         refine zp 12 36 ?_; refine zp 13 37 ?_
         refine done_ (done_of HT_.out (by kernel_rfl)) ?_
         try go_wp2
         go_meet
         case rel => exact ⟨_, (((a0.extract 0 (((rdOf ByteArray.empty a2 a3).size : Int) : Int).toNat).toList == (rdOf ByteArray.empty a2 a3).toList)), zS, (by first | exact H' | (subst_vars; exact H')), ⟨by have := c6.out; have := c8.out; have := d1.out; first | omega | exact Nat.le_refl _⟩, ⟨zR a1.out⟩, ⟨zB⟩⟩
        have b8 : decide (((rdOf ByteArray.empty a2 a3).size : Int) ≤ (a0.size : Int)) = false := decide_eq_false b2; have g1 : decide ((rdOf ByteArray.empty a2 a3).size ≤ a0.size) = false := decide_eq_false (fun h => b2 (Int.ofNat_le.mpr h)); clear b2
        (first | rw [b8] | (simp only [i64_w, i32_w]; rw [b8]) | skip)
        have H' := zA H; clear H
        try go_wp2
        replace a1 := zA (Kd.R_drew a1.out); replace HB := zA (below_drew1 HB.out)
        refine start_ (n := 14) (S := fun w' => True) (ds := []) (Array.replicate 14 false) (by kernel_rfl) rfl rfl trivial (fun hHeld => ?_); refine with_tabW spec_l4Word.tab8 spec_l4Word.bits8 (fun HT_ HW_ => ?_)
        generalize wc.drew = l3 at a1 HB hHeld ⊢; refine zp 0 24 ?_; refine zp 1 25 ?_; refine zp 2 26 ?_; refine zp 3 27 ?_; refine zp 4 28 ?_; refine zu 5 29 ?_; refine zu 6 30 ?_; refine zu 7 31 ?_; refine zu 8 32 ?_; refine zu 9 33 ?_; refine zu 10 34 ?_; refine zu 11 35 ?_; refine zu 12 36 ?_; refine zp 13 37 ?_
        refine done_ (done_of HT_.out (by kernel_rfl)) ?_
        try go_wp2
        go_meet
        case rel => exact ⟨_, (false), zS, (by first | exact H' | (subst_vars; exact H')), ⟨by have := c6.out; have := c8.out; have := d1.out; first | omega | exact Nat.le_refl _⟩, ⟨zR a1.out⟩, ⟨zB⟩⟩
       case rest =>
        clear e7
        try clear c1
        try clear p2
        try clear c3
        try clear b0
        try clear c2
        try clear p3
        try clear q3
        try clear hx3
        try clear c5
        try clear c10
        try clear b3
        try clear c12
        try clear c13
        try clear h6
        try clear c14
        try clear h7
        try clear b2
        try clear b8
        try clear g1
        try clear d4
        try clear i1
        try clear i2
        try clear d5
        try clear i3
        try clear i4
        try clear h9
        try clear e9
        try clear p2
        try clear d2
        try clear d6
        try clear d3
        try clear d7
        obtain ⟨kq, e8, rfl, HA, g2, a1, HB⟩ := hcut
        cases kq with
        | zero => exact absurd HA.out (by simp [spec_l4Word.j3])
        | succ d8 =>
         have H := HA.out; clear HA; simp only [spec_l4Word.j3] at H; replace H := zB0 H
         rcases H with ⟨rfl, H⟩ | ⟨rfl, H⟩
         ·replace H := zC0 H; obtain ⟨f0, H⟩ := H; have l4 := eq_true f0; have l5 := decide_eq_true f0; clear f0; replace H := zC0 H; obtain ⟨f1, H⟩ := H; have l6 := eq_true f1; have l7 := decide_eq_true f1; clear f1; replace H := Option.bind_eq_some_iff.mp H; obtain ⟨⟨b4, b5, b6, a7, b7, l8⟩, g3, H⟩ := H
          try dsimp only at H
          have g4 := zA g3; clear g3; replace H := zB0 H
          rcases H with ⟨rfl, H⟩ | ⟨rfl, H⟩
          ·replace H := zD0 H; obtain ⟨l9, H⟩ := H; replace H := zD0 H; obtain ⟨m0, H⟩ := H; replace H := Option.bind_eq_some_iff.mp H; obtain ⟨i7, g5, H⟩ := H
           try dsimp only at H
           have i8 := zA g5; clear g5; simp only [zU] at H; obtain ⟨rfl, rfl⟩ := H
           try go_wp2_with (first | ((with_reducible refine zq 153 ?_); refine zg (some 41) Tryz.func153 #[.string (a0.extract (((rdOf ByteArray.empty a2 a3).size : Int) : Int).toNat a0.size)] ?_; (with_reducible refine (spec_l4Read.calls d8 (a0.extract (((rdOf ByteArray.empty a2 a3).size : Int) : Int).toNat a0.size) b4 b5 b6 a7 b7 true _ g4.out).mono ?_); rintro e m1 ⟨i9, rfl, a9, hb⟩; refine ⟨_, rfl, ?_⟩; have a5 := zA (Kd.R_lower (Kd.R_new' (Kd.R_newM (M := fun k_ => (w.heap.size ≤ k_)) a9 (below_size (zB)) (fun k_ h_ => h_)) (Kd.R_lt (zR a1.out))) (below_size (zB))); replace a1 := zA (Kd.R_elder' (zR a1.out) (Kd.R_base a9) hb); replace HB := zA (below_step (zB) hb); (try clear hb a9)) | ((with_reducible refine zd 7 ?_); refine ze 7 169 #[.int .i64 0, .int .i64 0, .int .i64 0, .slice none 0 0, .int .i64 0, .bool false] ?_; intro a6 hg j1 hbox hb; replace a1 := zr a1 hb; replace a5 := zr a5 hb; have a4 := zA (hbox); have j4 := zi HB hg; have j5 := zi HB hg; replace HB := zA (below_step (zB) hb); clear hb hbox hg; obtain ⟨m2, m3, m4, m5, m6, m7, m8, m9, n0, n1, n2, n3⟩ := ze6 a4.out; obtain ⟨b9, c0, j6⟩ := Kd.R_slice a5.out; subst j6))
           generalize hW_ : ((((((j1.setCell ⟨a6, 0, none⟩ (.int .i64 b4)).setCell ⟨a6, 1, none⟩ (.int .i64 b5)).setCell ⟨a6, 2, none⟩ (.int .i64 b6)).setCell ⟨a6, 3, none⟩ (.slice b9 a7.length c0)).setCell ⟨a6, 4, none⟩ (.int .i64 b7)).setCell ⟨a6, 5, none⟩ (.bool true)) = f2; replace a1 : Aside0 (Kd.R Kd.string 9 f2 w.heap.size (fun k_ => (w.heap.size ≤ k_) ∧ some k_ ≠ (.slice b9 a7.length c0 : Value).ownBlock) (.slice (some a8) a2.length b1) a2) := ⟨by subst hW_; exact zR (Kd.R_mono (zr6 a1.out a4.out) (fun _ hk => ⟨hk.1, hk.2⟩))⟩; replace a5 : Aside0 (Kd.R Kd.string 9 f2 w.heap.size (fun k_ => (w.heap.size ≤ k_) ∧ some k_ ≠ (.slice (some a8) a2.length b1 : Value).ownBlock) (.slice b9 a7.length c0) a7) := ⟨by subst hW_; exact zR (Kd.R_mono (zr6 a5.out a4.out) (fun _ hk => ⟨hk.1.1, hk.2⟩))⟩; replace a4 := zA (zh1 hW_.symm (zk6 a4.out)); replace HB := zA (zh2 hW_.symm (zW HB.out)); clear hW_; replace a1 := zA (Kd.R_drew a1.out); replace a5 := zA (Kd.R_drew a5.out); replace a4 := zA (blk_drew a4.out); replace HB := zA (below_drew1 HB.out); have f3 : 0 ≤ (a3 : Int) := zD; have f4 : a3 < (a2.length : Int) := zD; obtain ⟨j7, j8, j9⟩ := Kd.at_string (Kd.R_reads' a1.out).2.2 a3 f3 f4; obtain rfl : a8 = j7 := (by injection j8); replace f3 := eq_true f3; replace f4 := eq_true f4
           refine start_ (n := 8) (S := fun w' => w'.cell? ⟨a6, 0, none⟩ = some (.int .i64 b4) ∧ w'.cell? ⟨a6, 1, none⟩ = some (.int .i64 b5) ∧ w'.cell? ⟨a6, 2, none⟩ = some (.int .i64 b6) ∧ w'.cell? ⟨a6, 3, none⟩ = some (.slice b9 a7.length c0) ∧ w'.cell? ⟨a6, 4, none⟩ = some (.int .i64 b7) ∧ w'.cell? ⟨a6, 5, none⟩ = some (.bool true) ∧ w'.cell? (a8.add (a3).toNat) = some (.string (rdOf ByteArray.empty a2 a3))) (ds := []) (Array.replicate 8 false) (by kernel_rfl) rfl rfl zO fun hHeld => ?_; refine with_tabW spec_l4Word.tab12 spec_l4Word.bits12 (fun HT_ HW_ => ?_)
           generalize f2.drew = n4 at a1 a5 a4 HB j9 hHeld ⊢; refine zp 0 46 ?_; refine zp 1 47 ?_; refine zp 2 48 ?_; refine zt 3 49 ?_; refine zt 4 50 ?_
           refine zo 5 (some 51) fun K hK => ?_
           refine goes_ Tryz.func154 (by kernel_rfl) rfl #[.string (rdOf ByteArray.empty a2 a3), .agg #[.int .i64 b4, .int .i64 b5, .int .i64 b6, .slice b9 a7.length c0, .int .i64 b7, .bool true]] (by rfl) rfl rfl zM ?_
           with_reducible refine (spec_l4Make.calls d8 (rdOf ByteArray.empty a2 a3) b4 b5 b6 (fun k_ => some k_ = (.slice b9 a7.length c0 : Value).ownBlock) _ _ a7 b7 true i7 _ ?s1 i8.out).mono ?_
           (case s1 => exact Kd.R_V (Kd.R_tight rfl (Kd.R_types (a5.out) a4.out (by decide))))
           rintro e n5 ⟨n6, rfl, a9, hb⟩
           have n7 := (hb.cell (World.block_lt_of_cell? _ _ (hHeld.2.2.2.2.2.2))).trans (hHeld.2.2.2.2.2.2)
           refine ⟨_, rfl, ?_⟩
           have k0 := zA (Kd.N_lower (Kd.N_mono (ok' := fun k_ => (w.heap.size ≤ k_) ∧ some k_ ≠ (.slice (some a8) a2.length b1 : Value).ownBlock ∧ k_ ≠ a6) a9 (fun k_ hk_ => ⟨Or.elim hk_ (fun hs_ => ((Kd.R_types (a5.out) a4.out (by decide)).1 k_ hs_.symm).1.1) (fun hn_ => (Nat.le_trans (below_size (zW HB.out)) hn_)), Or.elim hk_ (fun hs_ => ((Kd.R_types (a5.out) a4.out (by decide)).1 k_ hs_.symm).1.2) (fun hn_ => (Kd.fresh' (Kd.R_lt (zR a1.out)) k_ hn_)), Or.elim hk_ (fun hs_ => ((Kd.R_types (a5.out) a4.out (by decide)).1 k_ hs_.symm).2) (fun hn_ => (Kd.freshB (zK a4.out) k_ hn_))⟩)) (below_size (zW HB.out))); replace a1 := zr a1 hb; replace a5 := zr a5 hb; replace a4 := zb a4 hb; replace HB := zh HB hb
           (try clear hb a9)
           refine hK.out _ _ zO fun hHeld => ?_
           clear hK K; refine zn ?_; refine zp 6 2 ?_; refine zp 7 3 ?_
           refine done_ (done_of HT_.out (by kernel_rfl)) ?_
           try go_wp2
           go_ret2
           exact ⟨_, zE, zNt (Kd.N_mono k0.out (fun _ hk => hk.1)), zW HB.out⟩
          obtain ⟨k1, f5⟩ : ∃ y_ : List (S75), y_ = (([] : List (S75))) := ⟨_, rfl⟩; replace H : (some (k1, false)) = some (r1, r2) := zY f5 H; have g6 := zA f5; clear f5; simp only [zU] at H; obtain ⟨rfl, rfl⟩ := H
          go_wp2_with (first | ((with_reducible refine zq 153 ?_); refine zg (some 41) Tryz.func153 #[.string (a0.extract (((rdOf ByteArray.empty a2 a3).size : Int) : Int).toNat a0.size)] ?_; (with_reducible refine (spec_l4Read.calls d8 (a0.extract (((rdOf ByteArray.empty a2 a3).size : Int) : Int).toNat a0.size) b4 b5 b6 a7 b7 false _ g4.out).mono ?_); rintro e n8 ⟨i9, rfl, a9, hb⟩; refine ⟨_, rfl, ?_⟩; have a5 := zA (Kd.R_lower (Kd.R_new' (Kd.R_newM (M := fun k_ => (w.heap.size ≤ k_)) a9 (below_size (zB)) (fun k_ h_ => h_)) (Kd.R_lt (zR a1.out))) (below_size (zB))); replace a1 := zA (Kd.R_elder' (zR a1.out) (Kd.R_base a9) hb); replace HB := zA (below_step (zB) hb); (try clear hb a9)) | ((with_reducible refine zd 7 ?_); refine ze 7 169 #[.int .i64 0, .int .i64 0, .int .i64 0, .slice none 0 0, .int .i64 0, .bool false] ?_; intro a6 hg k3 hbox hb; replace a1 := zr a1 hb; replace a5 := zr a5 hb; have a4 := zA (hbox); have j4 := zi HB hg; have j5 := zi HB hg; replace HB := zA (below_step (zB) hb); clear hb hbox hg; obtain ⟨n9, o0, o1, o2, o3, o4, o5, o6, o7, o8, o9, p0⟩ := ze6 a4.out; obtain ⟨d9, e0, k4⟩ := Kd.R_slice a5.out; subst k4) | ((with_reducible refine gate_store (t := 169) (p := 7) rfl ?_); refine store_event (t := 169) (p := 7) (v := ?vo_w40) (w1 := ((((((k3.setCell ⟨a6, 0, none⟩ (.int .i64 b4)).setCell ⟨a6, 1, none⟩ (.int .i64 b5)).setCell ⟨a6, 2, none⟩ (.int .i64 b6)).setCell ⟨a6, 3, none⟩ (.slice d9 a7.length e0)).setCell ⟨a6, 4, none⟩ (.int .i64 b7)).setCell ⟨a6, 5, none⟩ (.bool false))) ?hg ?ho ?hn ?hr ?_; (case ho => rfl); (case hg => rfl); (case hn => rfl); (case hr => first | (go_simp; done) | (go_simp; rfl)); intro g7 hw; replace a1 : Aside0 (Kd.R Kd.string 9 g7 w.heap.size (fun k_ => (w.heap.size ≤ k_) ∧ some k_ ≠ (.slice d9 a7.length e0 : Value).ownBlock) (.slice (some a8) a2.length b1) a2) := ⟨(by rw [hw]; exact (zR (Kd.R_mono (zr6 a1.out a4.out) (fun _ hk => ⟨hk.1, hk.2⟩))))⟩; replace a5 : Aside0 (Kd.R Kd.string 9 g7 w.heap.size (fun k_ => (w.heap.size ≤ k_) ∧ some k_ ≠ (.slice (some a8) a2.length b1 : Value).ownBlock) (.slice d9 a7.length e0) a7) := ⟨(by rw [hw]; exact (zR (Kd.R_mono (zr6 a5.out a4.out) (fun _ hk => ⟨hk.1.1, hk.2⟩))))⟩; replace a4 := zA (zh1 hw (zk6 a4.out)); replace HB := zA (zh2 hw (zW HB.out)); clear hw; obtain ⟨p1, p4, p5, p6, p7, p8, p9, q0, q1, q2, q4, q5⟩ := ze6 a4.out) | ((with_reducible refine gate_dst (N := 45) rfl ?_); refine zNl k75 75 45 (xs := ([] : List (S75))) (inner := []) (ok := (fun k_ => (w.heap.size ≤ k_) ∧ some k_ ≠ (.slice (some a8) a2.length b1 : Value).ownBlock ∧ some k_ ≠ (.slice d9 a7.length e0 : Value).ownBlock ∧ k_ ≠ a6)) ((Reps.none _ _)) (fun k_ hk => ⟨(Nat.le_trans (below_size (zW HB.out)) hk), Kd.fresh' (Kd.R_lt (zR a1.out)) k_ hk, Kd.fresh' (Kd.R_lt (zR a5.out)) k_ hk, Kd.freshB (zK a4.out) k_ hk⟩) ?_; intro q6 q7 d0 hb hg_ hnew_; clear hg_ hnew_; (first | rw [← g6.out] at d0 | (simp only [Int.reduceToNat] at d0; rw [← g6.out] at d0)); replace a1 := zr a1 hb; replace a5 := zr a5 hb; have k5 := zA (Kd.N_lower d0 (below_size (zW HB.out))); replace a4 := zb a4 hb; replace HB := zh HB hb; clear hb d0))
          go_ret2
          exact ⟨_, zE, zNt (Kd.N_mono k5.out (fun _ hk => hk.1)), zW HB.out⟩
         have H' := zA H; clear H
         go_wp2
         go_roundg d8
         case measure => have := c6.out; have := c8.out; have := d1.out; have := g2.out; omega
         case rel => exact ⟨(wrap64 (a3 + 1)), zS, H', ⟨by have := c6.out; have := c8.out; have := d1.out; have := g2.out; omega⟩, ⟨zR a1.out⟩, ⟨zB⟩⟩
/-! ### spec_l4List: function 77 -/
mutual
def spec_l4List.j0 : Nat → List ByteArray → List (S75) → Bool → Option ((List (S75)) × Bool)
 | 0, _, _, _ => none
 | k + 1, x0, x4, a4 => if a4 = true then (if 0 < (x0.length : Int) then ((spec_ParseVer.f k (rdOf ByteArray.empty x0 0)).bind fun a0 => (if 2 < (x0.length : Int) then ((spec_ParseVer.f k (rdOf ByteArray.empty x0 2)).bind fun a1 => ((some (([(⟨4, (⟨a0.1, a0.2.1, a0.2.2.1, a0.2.2.2.1⟩ : S32)⟩ : S75), (⟨2, (⟨a1.1, a1.2.1, a1.2.2.1, a1.2.2.2.1⟩ : S32)⟩ : S75)] : List (S75)) : List (S75))).bind fun a3 => (if a0.2.2.2.2 = true then (some (a3, a1.2.2.2.2)) else (some (a3, false))))) else (none))) else (none)) else (spec_l4List.j1 k x0 x4)
def spec_l4List.j1 : Nat → List ByteArray → List (S75) → Option ((List (S75)) × Bool)
 | 0, _, _ => none
 | k + 1, x0, x4 => spec_l4List.l0 k x0 x4 0
def spec_l4List.l0 : Nat → List ByteArray → List (S75) → Int → Option ((List (S75)) × Bool)
 | 0, _, _, _ => none
 | k + 1, x0, x4, x9 => if x9 < (x0.length : Int) then (if 0 ≤ x9 then ((spec_l4Word.f k (rdOf ByteArray.empty x0 x9)).bind fun a2 => (if a2.2 = true then (if x4.length + a2.1.length < 2513169434916 then (spec_l4List.l0 k x0 (x4 ++ a2.1) (wrap64 (x9 + 1))) else (none)) else (some (x4, false)))) else (none)) else (some (x4, decide ((x4.length : Int) ≤ 4)))
end
def spec_l4List.f (k : Nat) (l0 : List ByteArray) : Option ((List (S75)) × Bool) := (some (([] : List (S75)) : List (S75))).bind fun a0 => (if (l0.length : Int) = 3 then (if 1 < (l0.length : Int) then (spec_l4List.j0 k l0 a0 ((rdOf ByteArray.empty l0 1).toList == ([45] : List UInt8))) else (none)) else (spec_l4List.j0 k l0 a0 false))
theorem spec_l4List.calls (k : Nat) (A0 : Option Addr) (c0 : Nat) (l0 : List ByteArray) (r1 : List (S75)) (r2 : Bool) (w : World) (i6 : Kd.C Kd.string w A0 l0.length l0) (i7 : l0.length ≤ c0) (h : spec_l4List.f k l0 = some (r1, r2)) :
  Calls Tryz.prog 77 #[.slice A0 l0.length c0] w fun e w' => ∃ i8 : Value, e = .returned (.tuple #[i8, .bool r2]) ∧ Kd.N k75 75 w' w.heap.size (fun k_ => (w.heap.size ≤ k_)) i8 r1 ∧ Below w.heap.size w w' := by
 have x6 := Tryz.underlying32
 have x7 := Tryz.underlying75
 have e1 := zA i6
 have x8 := zA i7
 clear i6 i7
 have HB := zA (Below.refl w.heap.size w)
 unfold spec_l4List.f at h
 have H := h
 clear h
 obtain ⟨d0, g7⟩ : ∃ y_ : List (S75), y_ = (([] : List (S75))) := ⟨_, rfl⟩
 replace H : (if (l0.length : Int) = 3 then (if 1 < (l0.length : Int) then (spec_l4List.j0 k l0 d0 ((rdOf ByteArray.empty l0 1).toList == ([45] : List UInt8))) else (none)) else (spec_l4List.j0 k l0 d0 false)) = some (r1, r2) := zY g7 H
 have i9 := zA g7
 clear g7
 have g8 := zA H
 clear H
 go_enter Tryz.func77, Tryz.ntmps77
 go_upto_region 2 with (first | ((with_reducible refine gate_dst (N := 12) rfl ?_); refine zNl k75 75 12 (xs := ([] : List (S75))) (inner := []) (ok := (fun k_ => (w.heap.size ≤ k_))) ((Reps.none _ _)) (fun k_ hk => (Nat.le_trans (below_size (zB)) hk)) ?_; intro b8 w3 f7 hb hg_ hnew_; clear hg_ hnew_; (first | rw [← i9.out] at f7 | (simp only [Int.reduceToNat] at f7; rw [← i9.out] at f7)); have j2 := zA (Kd.N_lower f7 (below_size (zB))); replace HB := zA (below_step (zB) hb); clear hb f7))
 (try simp only [Act.put, zT])
 go_cut [21] (fun r9 wc => ∃ (kq : Nat) (g9 : Bool), r9 = .bool g9 ∧ Aside0 (spec_l4List.j0 kq l0 d0 g9 = some (r1, r2)) ∧ Aside0 (kq ≤ k) ∧ Aside0 (Kd.N k75 75 wc w.heap.size (fun k_ => (w.heap.size ≤ k_)) b8 d0) ∧ Aside0 (Below w.heap.size w wc))
 case first =>
  have H := g8.out; clear g8; replace H := zI1 H
  rcases H with ⟨c5, H⟩ | ⟨c5, H⟩
  ·have e0 := beq_iff_eq.mpr c5; have g2 := bne_eq_false_iff_eq.mpr c5; clear c5
   (first | rw [e0] | (simp only [i64_w, i32_w]; rw [e0]) | skip)
   replace H := zC0 H; obtain ⟨c6, H⟩ := H; have h0 := decide_eq_true c6; have h1 : decide (1 < l0.length) = true := decide_eq_true (by omega); clear c6; have H' := zA H; clear H; have e5 : 0 ≤ (1 : Int) := (by omega); have e6 : 1 < (l0.length : Int) := zD; obtain ⟨x9, t0, e2⟩ := Kd.at_string e1.out 1 e5 e6; cases t0
   (try simp only [show (1 : Int).toNat = 1 from rfl, Nat.reduceMul, Nat.reduceEqDiff, Go.Addr.add, ↓reduceIte] at e2)
   have y0 : (1 < l0.length) = True := eq_true (by omega)
   (try rw [show ((1 : Int)).toNat = 1 from rfl] at e2)
   replace e2 := zx HB e2; replace e5 := eq_true e5; replace e6 := eq_true e6
   go_wp2
   go_meet
   case rel => exact ⟨_, (((rdOf ByteArray.empty l0 1).toList == ([45] : List UInt8))), zS, (by first | exact H' | (subst_vars; exact H')), ⟨by first | omega | exact Nat.le_refl _⟩, ⟨zN j2.out⟩, ⟨zB⟩⟩
  have e0 := beq_eq_false_iff_ne.mpr c5; have g2 := bne_iff_ne.mpr c5
  (first | rw [e0] | (simp only [i64_w, i32_w]; rw [e0]) | skip)
  have H' := zA H; clear H
  go_wp2
  go_meet
  case rel => exact ⟨_, (false), zS, (by first | exact H' | (subst_vars; exact H')), ⟨by first | omega | exact Nat.le_refl _⟩, ⟨zN j2.out⟩, ⟨zB⟩⟩
 case rest =>
  clear g8
  try clear p2
  try clear p3
  try clear q3
  try clear hx3
  try clear qi3
  try clear c5
  try clear e0
  try clear g2
  try clear c6
  try clear h0
  try clear h1
  try clear e2
  try clear e5
  try clear e6
  obtain ⟨kq, g9, rfl, HA, h2, a0, HB⟩ := hcut
  cases kq with
  | zero => exact absurd HA.out (by simp [spec_l4List.j0])
  | succ f8 =>
   have H := HA.out; clear HA; simp only [spec_l4List.j0] at H; have h3 := zA H; clear H
   go_upto_if 21 with (fail)
   go_cut [] (fun wc => ∃ (kq : Nat), Aside0 (spec_l4List.j1 kq l0 d0 = some (r1, r2)) ∧ Aside0 (kq ≤ f8) ∧ Aside0 (Kd.N k75 75 wc w.heap.size (fun k_ => (w.heap.size ≤ k_)) b8 d0) ∧ Aside0 (Below w.heap.size w wc))
   case first =>
    have H := h3.out; clear h3; replace H := zB0 H
    rcases H with ⟨rfl, H⟩ | ⟨rfl, H⟩
    ·replace H := zC0 H; obtain ⟨c9, H⟩ := H; have g3 := decide_eq_true c9; have j3 : decide (0 < l0.length) = true := decide_eq_true (by omega); clear c9
     (first | rw [g3] | (simp only [i64_w, i32_w]; rw [g3]) | skip)
     replace H := Option.bind_eq_some_iff.mp H; obtain ⟨⟨b1, b2, b3, a7, t1⟩, j4, H⟩ := H
     try dsimp only at H
     have j5 := zA j4; clear j4; replace H := zC0 H; obtain ⟨g4, H⟩ := H; have j6 := decide_eq_true g4; have j7 : decide (2 < l0.length) = true := decide_eq_true (by omega); clear g4; replace H := Option.bind_eq_some_iff.mp H; obtain ⟨⟨b4, b5, b6, a8, h4⟩, j8, H⟩ := H
     try dsimp only at H
     have j9 := zA j8; clear j8; obtain ⟨k0, h5⟩ : ∃ y_ : List (S75), y_ = (([(⟨4, (⟨b1, b2, b3, a7⟩ : S32)⟩ : S75), (⟨2, (⟨b4, b5, b6, a8⟩ : S32)⟩ : S75)] : List (S75))) := ⟨_, rfl⟩; replace H : (if t1 = true then (some (k0, h4)) else (some (k0, false))) = some (r1, r2) := zY h5 H; have g5 := zA h5; clear h5; replace H := zB0 H
     rcases H with ⟨rfl, H⟩ | ⟨rfl, H⟩
     ·simp only [zU] at H; obtain ⟨rfl, rfl⟩ := H; have d1 : 0 ≤ (0 : Int) := (by omega); have d2 : 0 < (l0.length : Int) := zD; obtain ⟨b9, h6, c4⟩ := Kd.at_string e1.out 0 d1 d2; cases h6; have t2 : (0 < l0.length) = True := eq_true (by omega)
      (try rw [show ((0 : Int)).toNat = 0 from rfl] at c4)
      (try rw [Addr.add_zero'] at c4)
      replace c4 := zx HB c4; replace d1 := eq_true d1; replace d2 := eq_true d2
      go_wp2_with (first | ((with_reducible refine zq 124 ?_); refine zg (some 26) Tryz.func124 #[.string (rdOf ByteArray.empty l0 0)] ?_; (with_reducible refine (spec_ParseVer.calls f8 (rdOf ByteArray.empty l0 0) b1 b2 b3 a7 true _ j5.out).mono ?_); rintro e y1 ⟨t3, rfl, a6, hb⟩; refine ⟨_, rfl, ?_⟩; replace a0 := zA (Kd.N_elder' (zN a0.out) (Kd.R_base a6) hb); have a4 := zA (Kd.R_lower (Kd.R_newM (M := fun k_ => (w.heap.size ≤ k_)) a6 (below_size (zB)) (fun k_ h_ => h_)) (below_size (zB))); replace HB := zA (below_step (zB) hb); (try clear hb a6)) | ((with_reducible refine zd 5 ?_); refine ze 5 32 #[.int .i64 0, .int .i64 0, .int .i64 0, .slice none 0 0] ?_; intro a3 hg y2 hbox hb; replace a0 := zA (Kd.N_below (Kd.N_elderB (zN a0.out) a3 (Nat.le_of_eq hg.symm)) hb); replace a4 := zr a4 hb; have a1 := zA (hbox); have d3 := zi HB hg; have t4 := zi HB hg; replace HB := zA (below_step (zB) hb); clear hb hbox hg; obtain ⟨k1, k2, k4, k5, k6, k7, k8, k9⟩ := ze4 a1.out; obtain ⟨e7, e8, t5⟩ := Kd.R_slice a4.out; subst t5; have d4 : 0 ≤ (2 : Int) := (by omega); have d5 : 2 < (l0.length : Int) := zD; obtain ⟨h7, h8, a2⟩ := Kd.at_string e1.out 2 d4 d5; obtain rfl : b9 = h7 := (by injection h8); (try simp only [show (2 : Int).toNat = 2 from rfl, Nat.reduceMul, Nat.reduceEqDiff, Go.Addr.add, ↓reduceIte] at a2); have t6 : (2 < l0.length) = True := eq_true (by omega); (try rw [show ((2 : Int)).toNat = 2 from rfl] at a2); have d6 : b9.block ≠ a3 := Nat.ne_of_lt (Nat.lt_of_lt_of_le (by have := World.block_lt_of_cell? _ _ a2; first | rwa [add_block] at this | exact this) d3.out); have d7 : b9.block ≠ a3 := Nat.ne_of_lt (Nat.lt_of_lt_of_le (by have := World.block_lt_of_cell? _ _ a2; first | rwa [add_block] at this | exact this) d3.out); have d8 : b9.block ≠ a3 := Nat.ne_of_lt (Nat.lt_of_lt_of_le (by have := World.block_lt_of_cell? _ _ a2; first | rwa [add_block] at this | exact this) d3.out); have d9 : b9.block ≠ a3 := Nat.ne_of_lt (Nat.lt_of_lt_of_le (by have := World.block_lt_of_cell? _ _ a2; first | rwa [add_block] at this | exact this) d3.out); replace a2 := zx HB a2; replace a2 := (cell_far (p := ⟨a3, 0, none⟩) (by first | (rw [add_block]; exact d6) | (show (Addr.add _ _).block ≠ _; rw [add_block]; exact d6) | exact d6) (.int .i64 b1)).trans a2; replace a2 := (cell_far (p := ⟨a3, 1, none⟩) (by first | (rw [add_block]; exact d7) | (show (Addr.add _ _).block ≠ _; rw [add_block]; exact d7) | exact d7) (.int .i64 b2)).trans a2; replace a2 := (cell_far (p := ⟨a3, 2, none⟩) (by first | (rw [add_block]; exact d8) | (show (Addr.add _ _).block ≠ _; rw [add_block]; exact d8) | exact d8) (.int .i64 b3)).trans a2; replace a2 := (cell_far (p := ⟨a3, 3, none⟩) (by first | (rw [add_block]; exact d9) | (show (Addr.add _ _).block ≠ _; rw [add_block]; exact d9) | exact d9) (.slice e7 a7.length e8)).trans a2; clear d6; clear d7; clear d8; clear d9; replace d4 := eq_true d4; replace d5 := eq_true d5) | ((with_reducible refine zq 124 ?_); refine zg (some 33) Tryz.func124 #[.string (rdOf ByteArray.empty l0 2)] ?_; (with_reducible refine (spec_ParseVer.calls f8 (rdOf ByteArray.empty l0 2) b4 b5 b6 a8 h4 _ j9.out).mono ?_); rintro e y3 ⟨t7, rfl, a6, hb⟩; refine ⟨_, rfl, ?_⟩; replace a0 := zA (Kd.N_elder' (zNt (zn4 a0.out (fun _ hk => hk.2))) (Kd.R_base a6) hb); have b0 := zA (Kd.R_lower (Kd.R_new' (Kd.R_newM (M := fun k_ => (w.heap.size ≤ k_)) a6 (below_size (zW HB.out)) (fun k_ h_ => h_)) (Kd.R_lt (zR (zr4 a4.out a1.out)))) (below_size (zW HB.out))); replace a4 := zA (Kd.R_elder' (zR (zr4 a4.out a1.out)) (Kd.R_base a6) hb); replace a1 := zA (blk_below (zk4 a1.out) hb); replace HB := zh HB hb; (try clear hb a6)) | ((with_reducible refine zd 7 ?_); refine ze 7 32 #[.int .i64 0, .int .i64 0, .int .i64 0, .slice none 0 0] ?_; intro a9 hg t8 hbox hb; replace a0 := zA (Kd.N_below (Kd.N_elderB (zN a0.out) a9 (Nat.le_of_eq hg.symm)) hb); replace a4 := zr a4 hb; replace b0 := zr b0 hb; have a5 := zA (hbox); have t9 := zi HB hg; have v0 := zi HB hg; replace HB := zh HB hb; have h9 := zA (zL hg (zK a1.out)); have i0 := zA (zJ hg (zK a1.out)); replace a1 := zb a1 hb; clear hb hbox hg; have y4 := i0.out; have y5 := h9.out; obtain ⟨l1, l2, l3, l4, l5, l6, l7, l8⟩ := ze4 a5.out; obtain ⟨e9, f0, v1⟩ := Kd.R_slice b0.out; subst v1) | ((with_reducible refine gate_store (t := 32) (p := 7) rfl ?_); refine store_event (t := 32) (p := 7) (v := ?vo_w23) (w1 := ((((t8.setCell ⟨a9, 0, none⟩ (.int .i64 b4)).setCell ⟨a9, 1, none⟩ (.int .i64 b5)).setCell ⟨a9, 2, none⟩ (.int .i64 b6)).setCell ⟨a9, 3, none⟩ (.slice e9 a8.length f0))) ?hg ?ho ?hn ?hr ?_; (case ho => rfl); (case hg => rfl); (case hn => rfl); (case hr => first | (go_simp; done) | (go_simp; rfl)); intro i1 hw; replace a0 : Aside0 (Kd.N k75 75 i1 w.heap.size (fun k_ => (w.heap.size ≤ k_) ∧ some k_ ≠ (.slice e7 a7.length e8 : Value).ownBlock ∧ some k_ ≠ (.slice e9 a8.length f0 : Value).ownBlock ∧ k_ ≠ a3 ∧ k_ ≠ a9) b8 d0) := ⟨(by rw [hw]; exact (zNt (Kd.N_mono (zn4 a0.out (fun _ hk => hk.2)) (fun _ hk => ⟨hk.1.1.1.1, ⟨hk.1.1.1.2, ⟨hk.1.2, ⟨hk.1.1.2, hk.2⟩⟩⟩⟩))))⟩; replace a4 : Aside0 (Kd.R Kd.string 9 i1 w.heap.size (fun k_ => (w.heap.size ≤ k_) ∧ some k_ ≠ (.slice e9 a8.length f0 : Value).ownBlock) (.slice e7 a7.length e8) a7) := ⟨(by rw [hw]; exact (zR (Kd.R_mono (zr4 a4.out a5.out) (fun _ hk => ⟨hk.1.1, hk.2⟩))))⟩; replace b0 : Aside0 (Kd.R Kd.string 9 i1 w.heap.size (fun k_ => (w.heap.size ≤ k_) ∧ some k_ ≠ (.slice e7 a7.length e8 : Value).ownBlock) (.slice e9 a8.length f0) a8) := ⟨(by rw [hw]; exact (zR (Kd.R_mono (zr4 b0.out a5.out) (fun _ hk => ⟨hk.1.1, hk.2⟩))))⟩; replace a1 := zA (zh1 hw (zK a1.out)); replace a5 := zA (zh1 hw (zk4 a5.out)); replace HB := zA (zh2 hw (zW HB.out)); clear hw; obtain ⟨l9, m0, m1, m2, m3, m4, m5, m6⟩ := ze4 a1.out; obtain ⟨m7, m8, m9, n0, n1, n2, n3, n4⟩ := ze4 a5.out) | ((with_reducible refine gate_dst (N := 40) rfl ?_); refine zNl k75 75 40 (xs := ([(⟨4, (⟨b1, b2, b3, a7⟩ : S32)⟩ : S75), (⟨2, (⟨b4, b5, b6, a8⟩ : S32)⟩ : S75)] : List (S75))) (inner := [.int .i64 4, .int .i64 b1, .int .i64 b2, .int .i64 b3, .slice e7 a7.length e8, .int .i64 2, .int .i64 b4, .int .i64 b5, .int .i64 b6, .slice e9 a8.length f0]) (ok := (fun k_ => (w.heap.size ≤ k_) ∧ some k_ ≠ (b8 : Value).ownBlock ∧ k_ ≠ a3 ∧ k_ ≠ a9)) ((Reps.c5 (show Kd.FK k75 _ _ (⟨4, (⟨b1, b2, b3, a7⟩ : S32)⟩ : S75) [.int .i64 4, .int .i64 b1, .int .i64 b2, .int .i64 b3, .slice e7 a7.length e8] from (k75_mkF _ _ (⟨4, (⟨b1, b2, b3, a7⟩ : S32)⟩ : S75) (Kd.R_reads' (Kd.R_mono (ok' := (fun k_ => (w.heap.size ≤ k_) ∧ some k_ ≠ (b8 : Value).ownBlock ∧ k_ ≠ a3 ∧ k_ ≠ a9)) (Kd.R_types (Kd.R_types (Kd.R_apart' (a4.out) (Kd.N_typed a0.out) (by decide)) a1.out (by decide)) a5.out (by decide)) (fun k_ hk => ⟨hk.1.1.1.1, ⟨hk.1.1.2, ⟨hk.1.2, hk.2⟩⟩⟩))).2.1 (Kd.R_F (Kd.R_mono (ok' := (fun k_ => (w.heap.size ≤ k_) ∧ some k_ ≠ (b8 : Value).ownBlock ∧ k_ ≠ a3 ∧ k_ ≠ a9)) (Kd.R_types (Kd.R_types (Kd.R_apart' (a4.out) (Kd.N_typed a0.out) (by decide)) a1.out (by decide)) a5.out (by decide)) (fun k_ hk => ⟨hk.1.1.1.1, ⟨hk.1.1.2, ⟨hk.1.2, hk.2⟩⟩⟩))))) (Reps.c5 (show Kd.FK k75 _ _ (⟨2, (⟨b4, b5, b6, a8⟩ : S32)⟩ : S75) [.int .i64 2, .int .i64 b4, .int .i64 b5, .int .i64 b6, .slice e9 a8.length f0] from (k75_mkF _ _ (⟨2, (⟨b4, b5, b6, a8⟩ : S32)⟩ : S75) (Kd.R_reads' (Kd.R_mono (ok' := (fun k_ => (w.heap.size ≤ k_) ∧ some k_ ≠ (b8 : Value).ownBlock ∧ k_ ≠ a3 ∧ k_ ≠ a9)) (Kd.R_types (Kd.R_types (Kd.R_apart' (b0.out) (Kd.N_typed a0.out) (by decide)) a1.out (by decide)) a5.out (by decide)) (fun k_ hk => ⟨hk.1.1.1.1, ⟨hk.1.1.2, ⟨hk.1.2, hk.2⟩⟩⟩))).2.1 (Kd.R_F (Kd.R_mono (ok' := (fun k_ => (w.heap.size ≤ k_) ∧ some k_ ≠ (b8 : Value).ownBlock ∧ k_ ≠ a3 ∧ k_ ≠ a9)) (Kd.R_types (Kd.R_types (Kd.R_apart' (b0.out) (Kd.N_typed a0.out) (by decide)) a1.out (by decide)) a5.out (by decide)) (fun k_ hk => ⟨hk.1.1.1.1, ⟨hk.1.1.2, ⟨hk.1.2, hk.2⟩⟩⟩))))) (Reps.none _ _)))) (fun k_ hk => ⟨(Nat.le_trans (below_size (zW HB.out)) hk), Kd.fresh' (Kd.N_lt (zN a0.out)) k_ hk, Kd.freshB (zK a1.out) k_ hk, Kd.freshB (zK a5.out) k_ hk⟩) ?_; intro v2 y6 f1 hb hg_ hnew_; clear hg_ hnew_; (first | rw [← g5.out] at f1 | (simp only [Int.reduceToNat] at f1; rw [← g5.out] at f1)); replace a0 := zA (Kd.N_elder' (zN a0.out) (Kd.N_base f1) hb); have i2 := zA (Kd.N_lower f1 (below_size (zW HB.out))); replace a1 := zb a1 hb; replace a5 := zb a5 hb; replace HB := zh HB hb; clear a4 b0; clear hb f1))
      go_ret2
      exact ⟨_, zE, zNt (Kd.N_mono i2.out (fun _ hk => hk.1)), zW HB.out⟩
     simp only [zU] at H; obtain ⟨rfl, rfl⟩ := H; have d1 : 0 ≤ (0 : Int) := (by omega); have d2 : 0 < (l0.length : Int) := zD; obtain ⟨b9, h6, c4⟩ := Kd.at_string e1.out 0 d1 d2; cases h6; have t2 : (0 < l0.length) = True := eq_true (by omega)
     (try rw [show ((0 : Int)).toNat = 0 from rfl] at c4)
     (try rw [Addr.add_zero'] at c4)
     replace c4 := zx HB c4; replace d1 := eq_true d1; replace d2 := eq_true d2
     go_wp2_with (first | ((with_reducible refine zq 124 ?_); refine zg (some 26) Tryz.func124 #[.string (rdOf ByteArray.empty l0 0)] ?_; (with_reducible refine (spec_ParseVer.calls f8 (rdOf ByteArray.empty l0 0) b1 b2 b3 a7 false _ j5.out).mono ?_); rintro e y7 ⟨t3, rfl, a6, hb⟩; refine ⟨_, rfl, ?_⟩; replace a0 := zA (Kd.N_elder' (zN a0.out) (Kd.R_base a6) hb); have a4 := zA (Kd.R_lower (Kd.R_newM (M := fun k_ => (w.heap.size ≤ k_)) a6 (below_size (zB)) (fun k_ h_ => h_)) (below_size (zB))); replace HB := zA (below_step (zB) hb); (try clear hb a6)) | ((with_reducible refine zd 5 ?_); refine ze 5 32 #[.int .i64 0, .int .i64 0, .int .i64 0, .slice none 0 0] ?_; intro a3 hg y8 hbox hb; replace a0 := zA (Kd.N_below (Kd.N_elderB (zN a0.out) a3 (Nat.le_of_eq hg.symm)) hb); replace a4 := zr a4 hb; have a1 := zA (hbox); have d3 := zi HB hg; have t4 := zi HB hg; replace HB := zA (below_step (zB) hb); clear hb hbox hg; obtain ⟨n5, n6, n7, n8, n9, o0, o1, o2⟩ := ze4 a1.out; obtain ⟨f2, f3, v3⟩ := Kd.R_slice a4.out; subst v3; have d4 : 0 ≤ (2 : Int) := (by omega); have d5 : 2 < (l0.length : Int) := zD; obtain ⟨h7, h8, a2⟩ := Kd.at_string e1.out 2 d4 d5; obtain rfl : b9 = h7 := (by injection h8); (try simp only [show (2 : Int).toNat = 2 from rfl, Nat.reduceMul, Nat.reduceEqDiff, Go.Addr.add, ↓reduceIte] at a2); have t6 : (2 < l0.length) = True := eq_true (by omega); (try rw [show ((2 : Int)).toNat = 2 from rfl] at a2); have d6 : b9.block ≠ a3 := Nat.ne_of_lt (Nat.lt_of_lt_of_le (by have := World.block_lt_of_cell? _ _ a2; first | rwa [add_block] at this | exact this) d3.out); have d7 : b9.block ≠ a3 := Nat.ne_of_lt (Nat.lt_of_lt_of_le (by have := World.block_lt_of_cell? _ _ a2; first | rwa [add_block] at this | exact this) d3.out); have d8 : b9.block ≠ a3 := Nat.ne_of_lt (Nat.lt_of_lt_of_le (by have := World.block_lt_of_cell? _ _ a2; first | rwa [add_block] at this | exact this) d3.out); have d9 : b9.block ≠ a3 := Nat.ne_of_lt (Nat.lt_of_lt_of_le (by have := World.block_lt_of_cell? _ _ a2; first | rwa [add_block] at this | exact this) d3.out); replace a2 := zx HB a2; replace a2 := (cell_far (p := ⟨a3, 0, none⟩) (by first | (rw [add_block]; exact d6) | (show (Addr.add _ _).block ≠ _; rw [add_block]; exact d6) | exact d6) (.int .i64 b1)).trans a2; replace a2 := (cell_far (p := ⟨a3, 1, none⟩) (by first | (rw [add_block]; exact d7) | (show (Addr.add _ _).block ≠ _; rw [add_block]; exact d7) | exact d7) (.int .i64 b2)).trans a2; replace a2 := (cell_far (p := ⟨a3, 2, none⟩) (by first | (rw [add_block]; exact d8) | (show (Addr.add _ _).block ≠ _; rw [add_block]; exact d8) | exact d8) (.int .i64 b3)).trans a2; replace a2 := (cell_far (p := ⟨a3, 3, none⟩) (by first | (rw [add_block]; exact d9) | (show (Addr.add _ _).block ≠ _; rw [add_block]; exact d9) | exact d9) (.slice f2 a7.length f3)).trans a2; clear d6; clear d7; clear d8; clear d9; replace d4 := eq_true d4; replace d5 := eq_true d5) | ((with_reducible refine zq 124 ?_); refine zg (some 33) Tryz.func124 #[.string (rdOf ByteArray.empty l0 2)] ?_; (with_reducible refine (spec_ParseVer.calls f8 (rdOf ByteArray.empty l0 2) b4 b5 b6 a8 h4 _ j9.out).mono ?_); rintro e y9 ⟨t7, rfl, a6, hb⟩; refine ⟨_, rfl, ?_⟩; replace a0 := zA (Kd.N_elder' (zNt (zn4 a0.out (fun _ hk => hk.2))) (Kd.R_base a6) hb); have b0 := zA (Kd.R_lower (Kd.R_new' (Kd.R_newM (M := fun k_ => (w.heap.size ≤ k_)) a6 (below_size (zW HB.out)) (fun k_ h_ => h_)) (Kd.R_lt (zR (zr4 a4.out a1.out)))) (below_size (zW HB.out))); replace a4 := zA (Kd.R_elder' (zR (zr4 a4.out a1.out)) (Kd.R_base a6) hb); replace a1 := zA (blk_below (zk4 a1.out) hb); replace HB := zh HB hb; (try clear hb a6)) | ((with_reducible refine zd 7 ?_); refine ze 7 32 #[.int .i64 0, .int .i64 0, .int .i64 0, .slice none 0 0] ?_; intro a9 hg v5 hbox hb; replace a0 := zA (Kd.N_below (Kd.N_elderB (zN a0.out) a9 (Nat.le_of_eq hg.symm)) hb); replace a4 := zr a4 hb; replace b0 := zr b0 hb; have a5 := zA (hbox); have t9 := zi HB hg; have v0 := zi HB hg; replace HB := zh HB hb; have h9 := zA (zL hg (zK a1.out)); have i0 := zA (zJ hg (zK a1.out)); replace a1 := zb a1 hb; clear hb hbox hg; have z0 := i0.out; have z1 := h9.out; obtain ⟨o3, o4, o5, o6, o7, o8, o9, p0⟩ := ze4 a5.out; obtain ⟨f4, f5, v6⟩ := Kd.R_slice b0.out; subst v6) | ((with_reducible refine gate_store (t := 32) (p := 7) rfl ?_); refine store_event (t := 32) (p := 7) (v := ?vo_w37) (w1 := ((((v5.setCell ⟨a9, 0, none⟩ (.int .i64 b4)).setCell ⟨a9, 1, none⟩ (.int .i64 b5)).setCell ⟨a9, 2, none⟩ (.int .i64 b6)).setCell ⟨a9, 3, none⟩ (.slice f4 a8.length f5))) ?hg ?ho ?hn ?hr ?_; (case ho => rfl); (case hg => rfl); (case hn => rfl); (case hr => first | (go_simp; done) | (go_simp; rfl)); intro i3 hw; replace a0 : Aside0 (Kd.N k75 75 i3 w.heap.size (fun k_ => (w.heap.size ≤ k_) ∧ some k_ ≠ (.slice f2 a7.length f3 : Value).ownBlock ∧ some k_ ≠ (.slice f4 a8.length f5 : Value).ownBlock ∧ k_ ≠ a3 ∧ k_ ≠ a9) b8 d0) := ⟨(by rw [hw]; exact (zNt (Kd.N_mono (zn4 a0.out (fun _ hk => hk.2)) (fun _ hk => ⟨hk.1.1.1.1, ⟨hk.1.1.1.2, ⟨hk.1.2, ⟨hk.1.1.2, hk.2⟩⟩⟩⟩))))⟩; replace a4 : Aside0 (Kd.R Kd.string 9 i3 w.heap.size (fun k_ => (w.heap.size ≤ k_) ∧ some k_ ≠ (.slice f4 a8.length f5 : Value).ownBlock) (.slice f2 a7.length f3) a7) := ⟨(by rw [hw]; exact (zR (Kd.R_mono (zr4 a4.out a5.out) (fun _ hk => ⟨hk.1.1, hk.2⟩))))⟩; replace b0 : Aside0 (Kd.R Kd.string 9 i3 w.heap.size (fun k_ => (w.heap.size ≤ k_) ∧ some k_ ≠ (.slice f2 a7.length f3 : Value).ownBlock) (.slice f4 a8.length f5) a8) := ⟨(by rw [hw]; exact (zR (Kd.R_mono (zr4 b0.out a5.out) (fun _ hk => ⟨hk.1.1, hk.2⟩))))⟩; replace a1 := zA (zh1 hw (zK a1.out)); replace a5 := zA (zh1 hw (zk4 a5.out)); replace HB := zA (zh2 hw (zW HB.out)); clear hw; obtain ⟨p1, p4, p5, p6, p7, p8, p9, q0⟩ := ze4 a1.out; obtain ⟨q1, q2, q4, q5, q6, q7, q8, q9⟩ := ze4 a5.out) | ((with_reducible refine gate_dst (N := 40) rfl ?_); refine zNl k75 75 40 (xs := ([(⟨4, (⟨b1, b2, b3, a7⟩ : S32)⟩ : S75), (⟨2, (⟨b4, b5, b6, a8⟩ : S32)⟩ : S75)] : List (S75))) (inner := [.int .i64 4, .int .i64 b1, .int .i64 b2, .int .i64 b3, .slice f2 a7.length f3, .int .i64 2, .int .i64 b4, .int .i64 b5, .int .i64 b6, .slice f4 a8.length f5]) (ok := (fun k_ => (w.heap.size ≤ k_) ∧ some k_ ≠ (b8 : Value).ownBlock ∧ k_ ≠ a3 ∧ k_ ≠ a9)) ((Reps.c5 (show Kd.FK k75 _ _ (⟨4, (⟨b1, b2, b3, a7⟩ : S32)⟩ : S75) [.int .i64 4, .int .i64 b1, .int .i64 b2, .int .i64 b3, .slice f2 a7.length f3] from (k75_mkF _ _ (⟨4, (⟨b1, b2, b3, a7⟩ : S32)⟩ : S75) (Kd.R_reads' (Kd.R_mono (ok' := (fun k_ => (w.heap.size ≤ k_) ∧ some k_ ≠ (b8 : Value).ownBlock ∧ k_ ≠ a3 ∧ k_ ≠ a9)) (Kd.R_types (Kd.R_types (Kd.R_apart' (a4.out) (Kd.N_typed a0.out) (by decide)) a1.out (by decide)) a5.out (by decide)) (fun k_ hk => ⟨hk.1.1.1.1, ⟨hk.1.1.2, ⟨hk.1.2, hk.2⟩⟩⟩))).2.1 (Kd.R_F (Kd.R_mono (ok' := (fun k_ => (w.heap.size ≤ k_) ∧ some k_ ≠ (b8 : Value).ownBlock ∧ k_ ≠ a3 ∧ k_ ≠ a9)) (Kd.R_types (Kd.R_types (Kd.R_apart' (a4.out) (Kd.N_typed a0.out) (by decide)) a1.out (by decide)) a5.out (by decide)) (fun k_ hk => ⟨hk.1.1.1.1, ⟨hk.1.1.2, ⟨hk.1.2, hk.2⟩⟩⟩))))) (Reps.c5 (show Kd.FK k75 _ _ (⟨2, (⟨b4, b5, b6, a8⟩ : S32)⟩ : S75) [.int .i64 2, .int .i64 b4, .int .i64 b5, .int .i64 b6, .slice f4 a8.length f5] from (k75_mkF _ _ (⟨2, (⟨b4, b5, b6, a8⟩ : S32)⟩ : S75) (Kd.R_reads' (Kd.R_mono (ok' := (fun k_ => (w.heap.size ≤ k_) ∧ some k_ ≠ (b8 : Value).ownBlock ∧ k_ ≠ a3 ∧ k_ ≠ a9)) (Kd.R_types (Kd.R_types (Kd.R_apart' (b0.out) (Kd.N_typed a0.out) (by decide)) a1.out (by decide)) a5.out (by decide)) (fun k_ hk => ⟨hk.1.1.1.1, ⟨hk.1.1.2, ⟨hk.1.2, hk.2⟩⟩⟩))).2.1 (Kd.R_F (Kd.R_mono (ok' := (fun k_ => (w.heap.size ≤ k_) ∧ some k_ ≠ (b8 : Value).ownBlock ∧ k_ ≠ a3 ∧ k_ ≠ a9)) (Kd.R_types (Kd.R_types (Kd.R_apart' (b0.out) (Kd.N_typed a0.out) (by decide)) a1.out (by decide)) a5.out (by decide)) (fun k_ hk => ⟨hk.1.1.1.1, ⟨hk.1.1.2, ⟨hk.1.2, hk.2⟩⟩⟩))))) (Reps.none _ _)))) (fun k_ hk => ⟨(Nat.le_trans (below_size (zW HB.out)) hk), Kd.fresh' (Kd.N_lt (zN a0.out)) k_ hk, Kd.freshB (zK a1.out) k_ hk, Kd.freshB (zK a5.out) k_ hk⟩) ?_; intro v2 z2 f6 hb hg_ hnew_; clear hg_ hnew_; (first | rw [← g5.out] at f6 | (simp only [Int.reduceToNat] at f6; rw [← g5.out] at f6)); replace a0 := zA (Kd.N_elder' (zN a0.out) (Kd.N_base f6) hb); have i2 := zA (Kd.N_lower f6 (below_size (zW HB.out))); replace a1 := zb a1 hb; replace a5 := zb a5 hb; replace HB := zh HB hb; clear a4 b0; clear hb f6))
     go_ret2
     exact ⟨_, zE, zNt (Kd.N_mono i2.out (fun _ hk => hk.1)), zW HB.out⟩
    have H' := zA H; clear H
    go_wp2
    go_meet
    case rel => exact ⟨_, (by first | exact H' | (subst_vars; exact H')), ⟨by have := h2.out; first | omega | exact Nat.le_refl _⟩, ⟨zN a0.out⟩, ⟨zB⟩⟩
   case rest =>
    clear h3
    try clear c1
    try clear c2
    try clear p2
    try clear c3
    try clear p3
    try clear q3
    try clear hx3
    try clear qi3
    try clear c5
    try clear e0
    try clear g2
    try clear c6
    try clear h0
    try clear h1
    try clear c7
    try clear c8
    try clear c9
    try clear g3
    try clear j3
    try clear g4
    try clear j6
    try clear j7
    try clear c12
    try clear c13
    try clear c20
    try clear c34
    try clear p36
    try clear q36
    try clear hx36
    try clear qi36
    try clear p37
    try clear q37
    try clear hx37
    try clear qi37
    try clear k1 k2 k4 k5 k6 k7 k8 k9
    try clear l1 l2 l3 l4 l5 l6 l7 l8
    try clear l9 m0 m1 m2 m3 m4 m5 m6
    try clear m7 m8 m9 n0 n1 n2 n3 n4
    try clear n5 n6 n7 n8 n9 o0 o1 o2
    try clear o3 o4 o5 o6 o7 o8 o9 p0
    try clear p1 p4 p5 p6 p7 p8 p9 q0
    try clear q1 q2 q4 q5 q6 q7 q8 q9
    try clear e2
    try clear c4
    try clear a2
    try clear p2
    try clear p3
    try clear e5
    try clear d1
    try clear d4
    try clear q3
    try clear e6
    try clear d2
    try clear d5
    obtain ⟨kq, HA, r0, a0, HB⟩ := hcut
    cases kq with
    | zero => exact absurd HA.out (by simp [spec_l4List.j1])
    | succ r3 =>
     have H := HA.out; clear HA; simp only [spec_l4List.j1] at H; have H' := zA H; clear H
     go_wp2
     go_loopg [4, 9] r3 (fun kq v4 v9 w' => ∃ (f9 : List (S75)) (b7 : Int), v9 = .int .i64 b7 ∧ Aside0 (spec_l4List.l0 kq l0 f9 b7 = some (r1, r2)) ∧ Aside0 (kq ≤ r3) ∧ Aside0 (Kd.N k75 75 w' w.heap.size (fun k_ => (w.heap.size ≤ k_)) v4 f9) ∧ Aside0 (Below w.heap.size w w'))
     case atStart => exact ⟨(d0), (0), zS, H', ⟨Nat.le_refl _⟩, ⟨zN a0.out⟩, ⟨zB⟩⟩
     case round =>
      clear H'
      try clear c1
      try clear c2
      try clear p2
      try clear c3
      try clear p3
      try clear q3
      try clear hx3
      try clear qi3
      try clear c5
      try clear e0
      try clear g2
      try clear c6
      try clear h0
      try clear h1
      try clear c7
      try clear c8
      try clear c9
      try clear g3
      try clear j3
      try clear g4
      try clear j6
      try clear j7
      try clear c12
      try clear c13
      try clear c20
      try clear c34
      try clear p36
      try clear q36
      try clear hx36
      try clear qi36
      try clear p37
      try clear q37
      try clear hx37
      try clear qi37
      try clear k1 k2 k4 k5 k6 k7 k8 k9
      try clear l1 l2 l3 l4 l5 l6 l7 l8
      try clear l9 m0 m1 m2 m3 m4 m5 m6
      try clear m7 m8 m9 n0 n1 n2 n3 n4
      try clear n5 n6 n7 n8 n9 o0 o1 o2
      try clear o3 o4 o5 o6 o7 o8 o9 p0
      try clear p1 p4 p5 p6 p7 p8 p9 q0
      try clear q1 q2 q4 q5 q6 q7 q8 q9
      try clear e2
      try clear c4
      try clear a2
      try clear p2
      try clear p3
      try clear p36
      try clear e5
      try clear d1
      try clear p37
      try clear d4
      try clear q3
      try clear q36
      try clear e6
      try clear d2
      try clear q37
      try clear d5
      obtain ⟨f9, b7, rfl, HA, r4, a0, HB⟩ := hrel
      cases gk with
      | zero => exact absurd HA.out (by simp [spec_l4List.l0])
      | succ k3 =>
       have H := HA.out; clear HA; simp only [spec_l4List.l0] at H; replace H := zI0 H
       rcases H with ⟨v7, H⟩ | ⟨v7, H⟩
       ·replace H := zD0 H; obtain ⟨z3, H⟩ := H; replace H := Option.bind_eq_some_iff.mp H; obtain ⟨⟨g6, z4⟩, r5, H⟩ := H
        try dsimp only at H
        have r6 := zA r5; clear r5; replace H := zB0 H
        rcases H with ⟨rfl, H⟩ | ⟨rfl, H⟩
        ·replace H := zC0 H; obtain ⟨r7, H⟩ := H; have v8 := zA r7; clear r7; obtain ⟨r8, i4⟩ : ∃ y_ : List (S75), y_ = (f9 ++ g6) := ⟨_, rfl⟩; replace H : (spec_l4List.l0 k3 l0 r8 (wrap64 (b7 + 1))) = some (r1, r2) := zY i4 H; have x0 := zA i4; clear i4; have H' := zA H; clear H; have e3 : 0 ≤ (b7 : Int) := zD; have e4 : b7 < (l0.length : Int) := zD; obtain ⟨x1, i5, g0⟩ := Kd.at_string e1.out b7 e3 e4; cases i5; replace g0 := zx HB g0; replace e3 := eq_true e3; replace e4 := eq_true e4
         go_wp2_with (first | ((with_reducible refine zq 125 ?_); refine zg (some 56) Tryz.func125 #[.string (rdOf ByteArray.empty l0 b7)] ?_; (with_reducible refine (spec_l4Word.calls k3 (rdOf ByteArray.empty l0 b7) g6 true _ r6.out).mono ?_); rintro e z5 ⟨x2, rfl, a6, hb⟩; refine ⟨_, rfl, ?_⟩; have g1 := zA (Kd.N_lower (Kd.N_mono (ok' := fun k_ => (w.heap.size ≤ k_) ∧ some k_ ≠ (u4 : Value).ownBlock) a6 (fun k_ hk_ => ⟨(Nat.le_trans (below_size (zB)) hk_), (Kd.fresh' (Kd.N_lt (zN a0.out)) k_ hk_)⟩)) (below_size (zB))); replace a0 := zA (Kd.N_elder' (zN a0.out) (Kd.N_base a6) hb); replace HB := zA (below_step (zB) hb); (try clear hb a6); obtain ⟨z6, z7, x3⟩ := Kd.N_slice g1.out; subst x3) | ((with_reducible refine gate_builtin (b := .append) (xs := #[.tmp 62, .tmp 63]) rfl ?_); at_builtin; refine Kd.N_append_rows k75 (w0 := w) w.heap.size rfl (.tmp 62) (.tmp 63) 108 75 (.agg #[(.int .i64 0), (.int .i64 0), (.int .i64 0), (.int .i64 0), (.slice none 0 0)]) 56 rfl Tryz.underlying108 info75 rfl (by decide) (by omega) u4 f9 g6 _ _ _ (fun k_ => (w.heap.size ≤ k_)) (fun k_ => ((fun k_ => (w.heap.size ≤ k_))) k_ ∧ some k_ ≠ (u4 : Value).ownBlock) rfl rfl ?aO ?aR (fun _ hk => hk) ?aF ?aB ?aS ?aL ?_; (case aR => exact (by skip; exact Kd.N_F (g1.out))); (case aB => exact (zB)); (case aF => exact (fun k_ hk => (Nat.le_trans (below_size (zB)) hk))); (case aO => exact (zNt (Kd.N_mono a0.out (fun _ hk => hk.1)))); (case aS => exact (below_size (zB))); (case aL => have := v8.out; omega); intro z8 z9 ho hb hg hat; rw [← x0.out] at ho; replace g1 := zA (Kd.N_afterv (ok := (fun k_ => (w.heap.size ≤ k_))) (zN g1.out) hg hat); replace HB := zA (hb); have x4 := zA (ho); clear a0; clear ho hb hg hat))
         go_roundg k3
         case measure => have := h2.out; have := r0.out; have := r4.out; omega
         case rel => exact ⟨(r8), (wrap64 (b7 + 1)), zS, H', ⟨by have := h2.out; have := r0.out; have := r4.out; omega⟩, ⟨zN x4.out⟩, ⟨zB⟩⟩
        simp only [zU] at H; obtain ⟨rfl, rfl⟩ := H; have e3 : 0 ≤ (b7 : Int) := zD; have e4 : b7 < (l0.length : Int) := zD; obtain ⟨x1, i5, g0⟩ := Kd.at_string e1.out b7 e3 e4; cases i5; replace g0 := zx HB g0; replace e3 := eq_true e3; replace e4 := eq_true e4
        go_wp2_with (first | ((with_reducible refine zq 125 ?_); refine zg (some 56) Tryz.func125 #[.string (rdOf ByteArray.empty l0 b7)] ?_; (with_reducible refine (spec_l4Word.calls k3 (rdOf ByteArray.empty l0 b7) g6 false _ r6.out).mono ?_); rintro e A1 ⟨x2, rfl, a6, hb⟩; refine ⟨_, rfl, ?_⟩; have g1 := zA (Kd.N_lower (Kd.N_mono (ok' := fun k_ => (w.heap.size ≤ k_) ∧ some k_ ≠ (u4 : Value).ownBlock) a6 (fun k_ hk_ => ⟨(Nat.le_trans (below_size (zB)) hk_), (Kd.fresh' (Kd.N_lt (zN a0.out)) k_ hk_)⟩)) (below_size (zB))); replace a0 := zA (Kd.N_elder' (zN a0.out) (Kd.N_base a6) hb); replace HB := zA (below_step (zB) hb); (try clear hb a6)))
        go_ret2
        exact ⟨_, zE, zNt (Kd.N_mono a0.out (fun _ hk => hk.1)), zB⟩
       simp only [zU] at H; obtain ⟨rfl, rfl⟩ := H; obtain ⟨A2, A3, x5⟩ := Kd.N_slice a0.out; subst x5
       go_wp2
       go_ret2
       exact ⟨_, zE, zN a0.out, zB⟩
/-! ### spec_l4Trim: function 79 -/
mutual
def spec_l4Trim.j1 : Nat → ByteArray → Option (ByteArray)
 | 0, _ => none
 | k + 1, x0 => spec_l4Trim.l1 k x0
def spec_l4Trim.l1 : Nat → ByteArray → Option (ByteArray)
 | 0, _ => none
 | k + 1, x0 => if (x0.size : Int) > 0 then (if 0 ≤ (wrap64 ((x0.size : Int) - 1)) then (if (wrap64 ((x0.size : Int) - 1)) < (x0.size : Int) then (if (bt x0 (wrap64 ((x0.size : Int) - 1))) = 32 then (if (wrap64 ((x0.size : Int) - 1)) ≤ (x0.size : Int) then (spec_l4Trim.l1 k (x0.extract 0 ((wrap64 ((x0.size : Int) - 1)) : Int).toNat)) else (none)) else (some x0)) else (none)) else (none)) else (some x0)
def spec_l4Trim.l0 : Nat → ByteArray → Option (ByteArray)
 | 0, _ => none
 | k + 1, x0 => if (x0.size : Int) > 0 then (if 0 < (x0.size : Int) then (if (bt x0 0) = 32 then (if 1 ≤ (x0.size : Int) then (spec_l4Trim.l0 k (x0.extract 1 x0.size)) else (none)) else (spec_l4Trim.j1 k x0)) else (none)) else (spec_l4Trim.j1 k x0)
end
def spec_l4Trim.f (k : Nat) (a0 : ByteArray) : Option (ByteArray) := spec_l4Trim.l0 k a0
theorem spec_l4Trim.calls (k : Nat) (a0 r : ByteArray) (w : World) (h : spec_l4Trim.f k a0 = some r) :
  Calls Tryz.prog 79 #[.string a0] w fun e w' => e = .returned (.string r) ∧ Drawn0 w w' := by
 unfold spec_l4Trim.f at h
 have H := h
 clear h
 have b0 := zA H
 clear H
 go_enter Tryz.func79, Tryz.ntmps79
 go_upto_block 0 with (fail)
 go_cut [0] (fun v0 wc => ∃ (kq : Nat) (a1 : ByteArray), v0 = .string a1 ∧ Aside0 (spec_l4Trim.j1 kq a1 = some r) ∧ Aside0 (kq ≤ k) ∧ Drawn0 w wc)
 case first =>
  have H := b0.out; clear b0; have H' := zA H; clear H
  go_wp2
  go_loopg [0] k (fun kq v0 w' => ∃ (a1 : ByteArray), v0 = .string a1 ∧ Aside0 (spec_l4Trim.l0 kq a1 = some r) ∧ Aside0 (kq ≤ k) ∧ Drawn0 w w')
  case atStart => exact ⟨(a0), zS, H', ⟨Nat.le_refl _⟩, by repeat (first | exact Drawn0.refl _ | apply Drawn0.step)⟩
  case round =>
   clear H'
   try clear p2
   obtain ⟨a1, rfl, HA, a9, ⟨m1, rfl⟩⟩ := hrel
   cases gk with
   | zero => exact absurd HA.out (by simp [spec_l4Trim.l0])
   | succ k1 =>
    have H := HA.out; clear HA; simp only [spec_l4Trim.l0] at H; replace H := zI1 H
    rcases H with ⟨c3, H⟩ | ⟨c3, H⟩
    ·have a4 : decide (0 < (a1.size : Int)) = true := decide_eq_true c3; have b1 : decide (0 < a1.size) = true := decide_eq_true (by omega); clear c3
     (first | rw [a4] | (simp only [i64_w, i32_w]; rw [a4]) | skip)
     replace H := zC0 H; obtain ⟨c4, H⟩ := H; have b7 := decide_eq_true c4; have b8 : decide (0 < a1.size) = true := decide_eq_true (by omega); clear c4; replace H := zI1 H
     rcases H with ⟨c6, H⟩ | ⟨c6, H⟩
     ·have b2 := beq_iff_eq.mpr c6; have b3 := bne_eq_false_iff_eq.mpr c6; clear c6; replace H := zC0 H; obtain ⟨c7, H⟩ := H; have b9 := eq_true c7; have c0 := decide_eq_true c7; clear c7; have H' := zA H; clear H; have p5 : 0 ≤ (0 : Int) := (by omega); have q5 : 0 < a1.size := (by have : (0 : Int) < (a1.size : Int) := zD; omega); have b4 : ∀ h : 0 < a1.size, ((a1[0]'h).toNat : Int) = bt a1 0 := bt_at a1 0; clear p5; have b5 : (0 < (a1.size : Int)) = True := eq_true (zD); replace q5 := eq_true q5
      go_wp2
      go_roundg k1
      case measure => have := a9.out; omega
      case rel => exact ⟨(a1.extract 1 a1.size), zS, H', ⟨by have := a9.out; omega⟩, by repeat (first | exact Drawn0.refl _ | apply Drawn0.step)⟩
     have b2 := beq_eq_false_iff_ne.mpr c6; have b3 := bne_iff_ne.mpr c6; have H' := zA H; clear H; have p5 : 0 ≤ (0 : Int) := (by omega); have q5 : 0 < a1.size := (by have : (0 : Int) < (a1.size : Int) := zD; omega); have b4 : ∀ h : 0 < a1.size, ((a1[0]'h).toNat : Int) = bt a1 0 := bt_at a1 0; clear p5; have b5 : (0 < (a1.size : Int)) = True := eq_true (zD); replace q5 := eq_true q5
     go_wp2
     go_meet
     case rel => exact ⟨_, (a1), zS, (by first | exact H' | (subst_vars; exact H')), ⟨by have := a9.out; first | omega | exact Nat.le_refl _⟩, by repeat (first | exact Drawn0.refl _ | apply Drawn0.step)⟩
    have a4 : decide (0 < (a1.size : Int)) = false := decide_eq_false c3; have b1 : decide (0 < a1.size) = false := decide_eq_false (by omega); clear c3
    (first | rw [a4] | (simp only [i64_w, i32_w]; rw [a4]) | skip)
    have H' := zA H; clear H
    go_wp2
    go_meet
    case rel => exact ⟨_, (a1), zS, (by first | exact H' | (subst_vars; exact H')), ⟨by have := a9.out; first | omega | exact Nat.le_refl _⟩, by repeat (first | exact Drawn0.refl _ | apply Drawn0.step)⟩
 case rest =>
  clear b0
  try clear p2
  try clear c3
  try clear a4
  try clear b1
  try clear c4
  try clear b7
  try clear b8
  try clear p5
  try clear q5
  try clear b4
  try clear b5
  try clear c6
  try clear b2
  try clear b3
  try clear c7
  try clear b9
  try clear c0
  try clear p2
  try clear p5
  try clear q5
  obtain ⟨kq, a1, rfl, HA, c2, ⟨d5, rfl⟩⟩ := hcut
  cases kq with
  | zero => exact absurd HA.out (by simp [spec_l4Trim.j1])
  | succ c5 =>
   have H := HA.out; clear HA; simp only [spec_l4Trim.j1] at H; have H' := zA H; clear H
   go_wp2
   go_loopg [0] c5 (fun kq v0 w' => ∃ (a2 : ByteArray), v0 = .string a2 ∧ Aside0 (spec_l4Trim.l1 kq a2 = some r) ∧ Aside0 (kq ≤ c5) ∧ Drawn0 w w')
   case atStart => exact ⟨(a1), zS, H', ⟨Nat.le_refl _⟩, by repeat (first | exact Drawn0.refl _ | apply Drawn0.step)⟩
   case round =>
    clear H'
    try clear c1
    try clear p2
    try clear c3
    try clear a4
    try clear b1
    try clear c4
    try clear b7
    try clear b8
    try clear p5
    try clear q5
    try clear b4
    try clear b5
    try clear c6
    try clear b2
    try clear b3
    try clear c7
    try clear b9
    try clear c0
    try clear p2
    try clear p5
    try clear q5
    obtain ⟨a2, rfl, HA, c9, ⟨m2, rfl⟩⟩ := hrel
    cases gk with
    | zero => exact absurd HA.out (by simp [spec_l4Trim.l1])
    | succ k2 =>
     have H := HA.out; clear HA; simp only [spec_l4Trim.l1] at H; replace H := zI1 H
     rcases H with ⟨c8, H⟩ | ⟨c8, H⟩
     ·have d0 : decide (0 < (a2.size : Int)) = true := decide_eq_true c8; have d1 : decide (0 < a2.size) = true := decide_eq_true (by omega); clear c8; obtain ⟨a3, a6⟩ : ∃ j_ : Int, (wrap64 ((a2.size : Int) - 1)) = j_ := ⟨_, rfl⟩
      replace H : (if 0 ≤ (a3) then (if (a3) < (a2.size : Int) then (if (bt a2 (a3)) = 32 then (if (a3) ≤ (a2.size : Int) then (spec_l4Trim.l1 k2 (a2.extract 0 ((a3) : Int).toNat)) else (none)) else (some a2)) else (none)) else (none)) = some r := by first | (rw [a6] at H; exact H) | (simp only [a6] at H ⊢; exact H)
      have hji9w : (IntKind.i64.wrap ((a2.size : Int) - 1)) = a3 := (i64_w _).trans a6; replace H := zD0 H; obtain ⟨d6, H⟩ := H; replace H := zD0 H; obtain ⟨d7, H⟩ := H; replace H := zI1 H
      rcases H with ⟨a5, H⟩ | ⟨a5, H⟩
      ·have d2 := beq_iff_eq.mpr a5; have d3 := bne_eq_false_iff_eq.mpr a5; clear a5; have d8 := eq_true (zD : 0 ≤ (a3)); replace H := zC0 H; obtain ⟨b6, H⟩ := H; have d9 := eq_true b6; have e0 := decide_eq_true b6; clear b6; have H' := zA H; clear H; have a7 : 0 ≤ ((a3) : Int) := zD; have a8 : (a3) < (a2.size : Int) := zD; have d4 := bt_at a2 (a3); replace a7 := eq_true a7; replace a8 := eq_true a8
       go_wp2
       go_roundg k2
       case measure => have := c2.out; have := c9.out; omega
       case rel => exact ⟨(a2.extract 0 ((a3) : Int).toNat), (by first | rfl | (simp; done) | (simp only [← a6] <;> (first | rfl | simp)) | (simp [*]; done)), H', ⟨by have := c2.out; have := c9.out; omega⟩, by repeat (first | exact Drawn0.refl _ | apply Drawn0.step)⟩
      have d2 := beq_eq_false_iff_ne.mpr a5; have d3 := bne_iff_ne.mpr a5; obtain rfl := zm H; have a7 : 0 ≤ ((a3) : Int) := zD; have a8 : (a3) < (a2.size : Int) := zD; have d4 := bt_at a2 (a3); replace a7 := eq_true a7; replace a8 := eq_true a8
      go_wp2
      go_ret
      exact ⟨by first | rfl | (simp; done) | (simp only [← a6] <;> (first | rfl | simp)) | (simp [*]; done), by repeat (first | exact Drawn0.refl _ | apply Drawn0.step)⟩
     have d0 : decide (0 < (a2.size : Int)) = false := decide_eq_false c8; have d1 : decide (0 < a2.size) = false := decide_eq_false (by omega); clear c8; obtain rfl := zm H
     go_wp2
     go_ret
     exact ⟨by first | rfl | (simp; done) | (simp [*]; done) | (simp; rw [Bool.eq_iff_iff]; simp; done), by repeat (first | exact Drawn0.refl _ | apply Drawn0.step)⟩
/-! ### spec_l4Good: function 80 -/
def spec_l4Good.l0 : Nat → List (S75) → Int → Option (Bool)
 | 0, _, _ => none
 | k + 1, x0, x3 => if x3 < (x0.length : Int) then (if 0 ≤ x3 then ((spec_VerOk.f k ((rd_T75 x0 x3).f1.f0) ((rd_T75 x0 x3).f1.f1) ((rd_T75 x0 x3).f1.f2) ((rd_T75 x0 x3).f1.f3)).bind fun a0 => (if a0 = true then (spec_l4Good.l0 k x0 (wrap64 (x3 + 1))) else (some false))) else (none)) else (some true)
def spec_l4Good.f (k : Nat) (l0 : List (S75)) : Option (Bool) := spec_l4Good.l0 k l0 0
theorem spec_l4Good.calls (k : Nat) (A0 : Option Addr) (c0 : Nat) (l0 : List (S75)) (r : Bool) (w : World) (b5 : Kd.C k75 w A0 l0.length l0) (b6 : l0.length ≤ c0) (h : spec_l4Good.f k l0 = some r) :
  Calls Tryz.prog 80 #[.slice A0 l0.length c0] w fun e w' => e = .returned (.bool r) ∧ Below w.heap.size w w' := by
 have c3 := Tryz.underlying32
 have b7 := zA b5
 have c4 := zA b6
 clear b5 b6
 have HB := zA (Below.refl w.heap.size w)
 unfold spec_l4Good.f at h
 have H := h
 clear h
 have H' := zA H
 clear H
 go_enter Tryz.func80, Tryz.ntmps80
 go_wp2
 go_loopg [3] k (fun kq v3 w' => ∃ (a0 : Int), v3 = .int .i64 a0 ∧ Aside0 (spec_l4Good.l0 kq l0 a0 = some r) ∧ Aside0 (kq ≤ k) ∧ Aside0 (Below w.heap.size w w'))
 case atStart => exact ⟨(0), zS, H', ⟨Nat.le_refl _⟩, ⟨zB⟩⟩
 case round =>
  clear H'; obtain ⟨a0, rfl, HA, b8, HB⟩ := hrel
  cases gk with
  | zero => exact absurd HA.out (by simp [spec_l4Good.l0])
  | succ k1 =>
   have H := HA.out; clear HA; simp only [spec_l4Good.l0] at H; replace H := zI0 H
   rcases H with ⟨c1, H⟩ | ⟨c1, H⟩
   ·replace H := zD0 H; obtain ⟨c5, H⟩ := H; replace H := Option.bind_eq_some_iff.mp H; obtain ⟨c6, b9, H⟩ := H
    try dsimp only at H
    have A4 := zA b9; clear b9; replace H := zB0 H
    rcases H with ⟨rfl, H⟩ | ⟨rfl, H⟩
    ·have H' := zA H; clear H; have a1 : 0 ≤ (a0 : Int) := zD; have a2 : a0 < (l0.length : Int) := zD; obtain ⟨c2, b0, b1, b2, a3, a4, a5, a6, a7, a8, a9⟩ := at_T75 b7.out a0 a1 a2; cases b2; replace a3 := zx HB a3; replace a4 := zx HB a4; replace a5 := zx HB a5; replace a6 := zx HB a6; replace a7 := zx HB a7; have b3 := zA a9; have b4 := zA a8; clear a9 a8; replace a1 := eq_true a1; replace a2 := eq_true a2
     go_wp2_with (first | ((with_reducible refine zq 68 ?_); refine zg (some 15) Tryz.func68 #[.agg #[.int .i64 ((rd_T75 l0 a0).f1.f0), .int .i64 ((rd_T75 l0 a0).f1.f1), .int .i64 ((rd_T75 l0 a0).f1.f2), .slice b0 ((rd_T75 l0 a0).f1.f3).length b1]] ?_; (with_reducible refine (spec_VerOk.calls k1 ((rd_T75 l0 a0).f1.f0) ((rd_T75 l0 a0).f1.f1) ((rd_T75 l0 a0).f1.f2) _ _ ((rd_T75 l0 a0).f1.f3) true _ ?s1 ?s2 A4.out).mono ?_); (case s1 => exact zC (Kd.C_below b3.out HB.out)); (case s2 => exact b4.out); rintro e w6 ⟨rfl, hb⟩; refine ⟨_, rfl, ?_⟩; replace HB := zA (below_step (zB) hb); (try clear hb)))
     go_roundg k1
     case measure => have := b8.out; omega
     case rel => exact ⟨(wrap64 (a0 + 1)), zS, H', ⟨by have := b8.out; omega⟩, ⟨zB⟩⟩
    obtain rfl := zm H; have a1 : 0 ≤ (a0 : Int) := zD; have a2 : a0 < (l0.length : Int) := zD; obtain ⟨c2, b0, b1, b2, a3, a4, a5, a6, a7, a8, a9⟩ := at_T75 b7.out a0 a1 a2; cases b2; replace a3 := zx HB a3; replace a4 := zx HB a4; replace a5 := zx HB a5; replace a6 := zx HB a6; replace a7 := zx HB a7; have b3 := zA a9; have b4 := zA a8; clear a9 a8; replace a1 := eq_true a1; replace a2 := eq_true a2
    go_wp2_with (first | ((with_reducible refine zq 68 ?_); refine zg (some 15) Tryz.func68 #[.agg #[.int .i64 ((rd_T75 l0 a0).f1.f0), .int .i64 ((rd_T75 l0 a0).f1.f1), .int .i64 ((rd_T75 l0 a0).f1.f2), .slice b0 ((rd_T75 l0 a0).f1.f3).length b1]] ?_; (with_reducible refine (spec_VerOk.calls k1 ((rd_T75 l0 a0).f1.f0) ((rd_T75 l0 a0).f1.f1) ((rd_T75 l0 a0).f1.f2) _ _ ((rd_T75 l0 a0).f1.f3) false _ ?s1 ?s2 A4.out).mono ?_); (case s1 => exact zC (Kd.C_below b3.out HB.out)); (case s2 => exact b4.out); rintro e w7 ⟨rfl, hb⟩; refine ⟨_, rfl, ?_⟩; replace HB := zA (below_step (zB) hb); (try clear hb)))
    go_ret
    exact ⟨zE, zB⟩
   obtain rfl := zm H
   go_wp2
   go_ret
   exact ⟨zE, zB⟩
end Go.Proofs.YtpcdhoeoefoeoaaGreatDoor.PGE
