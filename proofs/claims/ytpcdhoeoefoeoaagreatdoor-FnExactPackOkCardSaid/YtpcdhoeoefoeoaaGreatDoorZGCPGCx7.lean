/- The walks of the functions that these laws reach, and what each comes to: printed by this session's program. -/
import Derived.Test.YtpcdhoeoefoeoaaGreatDoorZGCPGCx0
import Derived.Test.YtpcdhoeoefoeoaaGreatDoorZGCPGCx6
import Derived.Test.YtpcdhoeoefoeoaaGreatDoorZGCSays
import Derived.Test.YtpcdhoeoefoeoaaGreatDoorZGCRegN
import Derived.Test.YtpcdhoeoefoeoaaGreatDoorZGCRegs
namespace Go.Proofs.YtpcdhoeoefoeoaaGreatDoor.PGC
open Go.RowKit YtpcdhoeoefoeoaaGreatDoorW.PrintWords YtpcdhoeoefoeoaaGreatDoorW.PrintLast YtpcdhoeoefoeoaaGreatDoorW.PrintMore
attribute [local go_sem high] Mine.str_gtr Mine.str_leq Mine.str_geq
attribute [local go_sem] max2_int min2_int max_two min_two max_three min_three max_four min_four   -- for this text's walks alone
set_option linter.unusedVariables false
set_option maxHeartbeats 8000000
set_option maxRecDepth 100000
set_option linter.unusedSimpArgs false
/-! ### spec_l4Make: function 154 -/
mutual
def spec_l4Make.j0 : Nat → ByteArray → Bool → Bool → Int → Int → Int → List ByteArray → Int → Bool → Option ((List (S75)))
 | 0, _, _, _, _, _, _, _, _, _ => none
 | k + 1, x0, x5, b2, a0, a1, a2, a3, a4, a5 => if b2 = true then (some (([(⟨3, (⟨a0, a1, a2, a3⟩ : S32)⟩ : S75)] : List (S75)))) else (if x0.toList = ([62] : List UInt8) then ((spec_l4Next.f a0 a1 a2 a3 a4 a5).bind fun a9 => (some (([(⟨4, (⟨a9.1, a9.2.1, a9.2.2.1, a9.2.2.2⟩ : S32)⟩ : S75)] : List (S75))))) else (if x0.toList = ([60, 61] : List UInt8) then (spec_l4Make.j1 k x0 x5 x5 a0 a1 a2 a3 a4 a5) else (spec_l4Make.j1 k x0 x5 false a0 a1 a2 a3 a4 a5)))
def spec_l4Make.j1 : Nat → ByteArray → Bool → Bool → Int → Int → Int → List ByteArray → Int → Bool → Option ((List (S75)))
 | 0, _, _, _, _, _, _, _, _, _ => none
 | k + 1, x0, x5, b3, a0, a1, a2, a3, a4, a5 => if b3 = true then (some (([(⟨2, (⟨a0, a1, a2, a3⟩ : S32)⟩ : S75)] : List (S75)))) else (if x0.toList = ([60, 61] : List UInt8) then ((spec_l4Next.f a0 a1 a2 a3 a4 a5).bind fun b0 => ((spec_l4Below.f b0.1 b0.2.1 b0.2.2.1 b0.2.2.2).bind fun a6 => (some (([(⟨a6.1, (⟨a6.2.1, a6.2.2.1, a6.2.2.2.1, a6.2.2.2.2⟩ : S32)⟩ : S75)] : List (S75)))))) else (if x5 = true then (some (([(⟨0, (⟨a0, a1, a2, a3⟩ : S32)⟩ : S75)] : List (S75)))) else ((spec_l4From.f a0 a1 a2 a3 a4 a5).bind fun a7 => ((spec_l4Next.f a0 a1 a2 a3 a4 a5).bind fun b1 => ((spec_l4Below.f b1.1 b1.2.1 b1.2.2.1 b1.2.2.2).bind fun a8 => (some (([(⟨a7.1, (⟨a7.2.1, a7.2.2.1, a7.2.2.2.1, a7.2.2.2.2⟩ : S32)⟩ : S75), (⟨a8.1, (⟨a8.2.1, a8.2.2.1, a8.2.2.2.1, a8.2.2.2.2⟩ : S32)⟩ : S75)] : List (S75)))))))))
end
def spec_l4Make.f (k : Nat) (a0 : ByteArray) (a2 a3 a4 : Int) (a5 : List ByteArray) (a1 : Int) (a6 : Bool) : Option ((List (S75))) := if a0.toList = ([94] : List UInt8) then ((spec_l4From.f a2 a3 a4 a5 a1 a6).bind fun a7 => ((spec_l4Caret.f k a2 a3 a4 a5 a1 a6).bind fun b2 => ((spec_l4Below.f b2.1 b2.2.1 b2.2.2.1 b2.2.2.2).bind fun a8 => (some (([(⟨a7.1, (⟨a7.2.1, a7.2.2.1, a7.2.2.2.1, a7.2.2.2.2⟩ : S32)⟩ : S75), (⟨a8.1, (⟨a8.2.1, a8.2.2.1, a8.2.2.2.1, a8.2.2.2.2⟩ : S32)⟩ : S75)] : List (S75))))))) else (if a0.toList = ([126] : List UInt8) then ((spec_l4From.f a2 a3 a4 a5 a1 a6).bind fun a9 => ((spec_l4Tilde.f a2 a3 a4 a5 a1 a6).bind fun b3 => ((spec_l4Below.f b3.1 b3.2.1 b3.2.2.1 b3.2.2.2).bind fun b0 => (some (([(⟨a9.1, (⟨a9.2.1, a9.2.2.1, a9.2.2.2.1, a9.2.2.2.2⟩ : S32)⟩ : S75), (⟨b0.1, (⟨b0.2.1, b0.2.2.1, b0.2.2.2.1, b0.2.2.2.2⟩ : S32)⟩ : S75)] : List (S75))))))) else (if a0.toList = ([62, 61] : List UInt8) then ((spec_l4From.f a2 a3 a4 a5 a1 a6).bind fun b1 => (some (([(⟨b1.1, (⟨b1.2.1, b1.2.2.1, b1.2.2.2.1, b1.2.2.2.2⟩ : S32)⟩ : S75)] : List (S75))))) else (if a0.toList = ([60] : List UInt8) then (some (([(⟨1, (⟨a2, a3, a4, a5⟩ : S32)⟩ : S75)] : List (S75)))) else (if a0.toList = ([62] : List UInt8) then (spec_l4Make.j0 k a0 (a1 == 3) (a1 == 3) a2 a3 a4 a5 a1 a6) else (spec_l4Make.j0 k a0 (a1 == 3) false a2 a3 a4 a5 a1 a6)))))
theorem spec_l4Make.calls (k : Nat) (a0 : ByteArray) (a4 a5 a6 : Int) (a7 : Nat → Prop) (b1 : Option Addr) (b2 : Nat) (a3 : List ByteArray) (a9 : Int) (b3 : Bool) (r : List (S75)) (w : World) (x3 : Kd.V Kd.string 9 w w.heap.size (fun k_ => a7 k_) (.slice b1 a3.length b2) a3) (h : spec_l4Make.f k a0 a4 a5 a6 a3 a9 b3 = some r) :
  Calls Tryz.prog 154 #[.string a0, .agg #[.int .i64 a4, .int .i64 a5, .int .i64 a6, .slice b1 a3.length b2, .int .i64 a9, .bool b3]] w fun e w' => ∃ q1 : Value, e = .returned (q1) ∧ Kd.N k75 75 w' w.heap.size (fun k_ => (a7 k_ ∨ w.heap.size ≤ k_)) q1 r ∧ Below w.heap.size w w' := by
 have E9 := Tryz.underlying169
 have F0 := Tryz.underlying32
 have F1 := Tryz.underlying75
 have b4 := zA (show Kd.V Kd.string 9 w w.heap.size (fun k_ => (a7 k_ ∨ w.heap.size ≤ k_)) (.slice b1 a3.length b2) a3 from Kd.V_mono x3 (fun k_ hk => .inl hk))
 have HB := zA (Below.refl w.heap.size w)
 unfold spec_l4Make.f at h
 have H := h
 clear h
 go_enter Tryz.func154, Tryz.ntmps154
 go_upto_if 9 with (first | ((with_reducible refine zd 3 ?_); refine ze 3 169 #[.int .i64 a4, .int .i64 a5, .int .i64 a6, .slice b1 a3.length b2, .int .i64 a9, .bool b3] ?_; intro a1 hg w7 hbox hb; replace b4 := zA (Kd.V_below (Kd.V_elderB (zV b4.out) a1 (Nat.le_of_eq hg.symm)) hb); have a2 := zA (hbox); have F2 := zi HB hg; have F3 := zi HB hg; replace HB := zA (below_step (zB) hb); clear hb hbox hg; obtain ⟨l6, l7, l8, l9, m0, m1, m2, m3, m4, m5, m6, m7⟩ := ze6 a2.out))
 (try simp only [Act.put, zT])
 replace H := zI1 H
 rcases H with ⟨c3, H⟩ | ⟨c3, H⟩
 ·have d3 := beq_iff_eq.mpr c3
  have d4 := bne_eq_false_iff_eq.mpr c3
  clear c3
  replace H := zj H
  obtain ⟨⟨d9, e0, e1, e2, e3⟩, A4, H⟩ := H
  try dsimp only at H
  replace H := zj H
  obtain ⟨⟨n3, n4, n5, b8⟩, A5, H⟩ := H
  try dsimp only at H
  replace H := zj H
  obtain ⟨⟨e4, e5, e6, e7, e8⟩, A6, H⟩ := H
  try dsimp only at H
  obtain ⟨x4, n6⟩ : ∃ y_ : List (S75), y_ = (([(⟨d9, (⟨e0, e1, e2, e3⟩ : S32)⟩ : S75), (⟨e4, (⟨e5, e6, e7, e8⟩ : S32)⟩ : S75)] : List (S75))) := ⟨_, rfl⟩
  replace H : (some x4) = some r := zY n6 H
  have q2 := Aside0.mk n6
  clear n6
  obtain rfl := Option.some.inj H
  (try simp only [d3, d4])
  try go_wp2
  replace b4 := zA (Kd.V_drew b4.out)
  replace a2 := zA (blk_drew a2.out)
  replace HB := zA (below_drew1 HB.out)
  refine start_ (n := 7) (S := fun w' => w'.cell? ⟨a1, 0, none⟩ = some (.int .i64 a4) ∧ w'.cell? ⟨a1, 1, none⟩ = some (.int .i64 a5) ∧ w'.cell? ⟨a1, 2, none⟩ = some (.int .i64 a6) ∧ w'.cell? ⟨a1, 3, none⟩ = some (.slice b1 a3.length b2) ∧ w'.cell? ⟨a1, 4, none⟩ = some (.int .i64 a9) ∧ w'.cell? ⟨a1, 5, none⟩ = some (.bool b3)) (ds := []) (Array.replicate 7 false) (by kernel_rfl) rfl rfl zO fun hHeld => ?_
  generalize w7.drew = w9 at b4 a2 HB hHeld ⊢
  refine zt 0 12 ?_
  refine zt 2 14 ?_
  refine zo 1 (some 13) fun K hK => ?_
  refine goes_ Tryz.func177 (by kernel_rfl) rfl #[.agg #[.int .i64 a4, .int .i64 a5, .int .i64 a6, .slice b1 a3.length b2, .int .i64 a9, .bool b3]] (by rfl) rfl rfl zM ?_
  with_reducible refine (spec_l4From.calls a4 a5 a6 (fun k_ => ((a7 k_ ∨ w.heap.size ≤ k_) ∧ k_ ≠ a1)) _ _ a3 a9 b3 d9 e0 e1 e2 e3 _ ?side1 A4.out).mono ?_
  (case side1 => exact b4.out)
  rintro e F4 ⟨F5, rfl, a8, hb⟩
  refine ⟨_, rfl, ?_⟩
  replace b4 := zA (Kd.V_below (zV b4.out) hb)
  have b9 := zA (Kd.V_lower (Kd.V_mono (ok' := fun k_ => (a7 k_ ∨ w.heap.size ≤ k_) ∧ k_ ≠ a1) a8 (fun k_ hk_ => ⟨Or.elim hk_ (fun hs_ => hs_.1) (fun hn_ => (.inr (Nat.le_trans (below_size (zW HB.out)) hn_))), Or.elim hk_ (fun hs_ => hs_.2) (fun hn_ => (Kd.freshB (g := a1) (o := .cells #[.int .i64 a4, .int .i64 a5, .int .i64 a6, .slice b1 a3.length b2, .int .i64 a9, .bool b3] 169 (0, 0)) (zK a2.out) k_ hn_))⟩)) (below_size (zW HB.out)))
  replace a2 := zb a2 hb
  replace HB := zh HB hb
  (try clear hb a8)
  refine hK.out _ _ zO fun hHeld => ?_
  clear hK K
  refine zn ?_
  refine zo 3 (some 15) fun K hK => ?_
  refine goes_ Tryz.func179 (by kernel_rfl) rfl #[.agg #[.int .i64 a4, .int .i64 a5, .int .i64 a6, .slice b1 a3.length b2, .int .i64 a9, .bool b3]] (by rfl) rfl rfl zM ?_
  with_reducible refine (spec_l4Caret.calls k a4 a5 a6 _ _ a3 a9 b3 n3 n4 n5 b8 _ ?side1 ?side2 A5.out).mono ?_
  (case side1 => repeat (first | exact (Kd.V_reads' b4.out).2.2 | (with_reducible refine Kd.C_alloc ?_ _) | (with_reducible refine Kd.C_drewN ?_ _) | (with_reducible refine Kd.C_drew ?_)))
  (case side2 => exact (Kd.V_reads' b4.out).2.1)
  rintro e F6 ⟨F7, rfl, a8, hb⟩
  refine ⟨_, rfl, ?_⟩
  replace b4 := zA (Kd.V_elder' (zV b4.out) (Kd.R_base a8) hb)
  replace b9 := zA (Kd.V_elder' (zV b9.out) (Kd.R_base a8) hb)
  have c0 := zA (Kd.R_lower (Kd.R_newM (M := fun k_ => (w.heap.size ≤ k_)) a8 (below_size (zW HB.out)) (fun k_ h_ => h_)) (below_size (zW HB.out)))
  replace a2 := zb a2 hb
  replace HB := zh HB hb
  (try clear hb a8)
  obtain ⟨e9, f0, q3⟩ := Kd.R_slice c0.out
  (first | subst q3 | (injection q3 with f1_ f2_ f3_; have b5 := f1_.symm; have b6 := f3_.symm; clear f1_ f2_ f3_; subst b5; subst b6))
  refine hK.out _ _ zO fun hHeld => ?_
  clear hK K
  refine zn ?_
  refine zo 4 (some 16) fun K hK => ?_
  refine goes_ Tryz.func178 (by kernel_rfl) rfl #[.agg #[.int .i64 n3, .int .i64 n4, .int .i64 n5, .slice e9 b8.length f0]] (by rfl) rfl rfl zM ?_
  with_reducible refine (spec_l4Below.calls n3 n4 n5 _ _ b8 e4 e5 e6 e7 e8 _ ?side1 ?side2 A6.out).mono ?_
  (case side1 => repeat (first | exact (Kd.R_reads' c0.out).2.2 | (with_reducible refine Kd.C_alloc ?_ _) | (with_reducible refine Kd.C_drewN ?_ _) | (with_reducible refine Kd.C_drew ?_)))
  (case side2 => exact (Kd.R_reads' c0.out).2.1)
  rintro e x5 ⟨F8, rfl, a8, hb⟩
  refine ⟨_, rfl, ?_⟩
  replace b4 := zA (Kd.V_elder' (zV b4.out) (Kd.R_base a8) hb)
  replace b9 := zA (Kd.V_elder' (zV b9.out) (Kd.R_base a8) hb)
  have m8 := zA (Kd.R_lower (Kd.R_new' (Kd.R_newM (M := fun k_ => (w.heap.size ≤ k_)) a8 (below_size (zW HB.out)) (fun k_ h_ => h_)) (Kd.R_lt (zR c0.out))) (below_size (zW HB.out)))
  replace c0 := zA (Kd.R_elder' (zR c0.out) (Kd.R_base a8) hb)
  replace a2 := zb a2 hb
  replace HB := zh HB hb
  (try clear hb a8)
  obtain ⟨q4, q5, q6⟩ := Kd.V_slice b9.out
  (first | subst q6 | (injection q6 with f1_ f2_ f3_; have b5 := f1_.symm; have b6 := f3_.symm; clear f1_ f2_ f3_; subst b5; subst b6))
  obtain ⟨q7, q8, q9⟩ := Kd.R_slice m8.out
  (first | subst q9 | (injection q9 with f1_ f2_ f3_; have b5 := f1_.symm; have b6 := f3_.symm; clear f1_ f2_ f3_; subst b5; subst b6))
  refine hK.out _ _ zO fun hHeld => ?_
  clear hK K
  refine zn ?_
  refine zo 5 (some 17) fun K hK => ?_
  refine Kd.N_lit_step k75 _ 75 ?hg (N' := 17) ?hd (xs := ([(⟨d9, (⟨e0, e1, e2, e3⟩ : S32)⟩ : S75), (⟨e4, (⟨e5, e6, e7, e8⟩ : S32)⟩ : S75)] : List (S75))) (inner := [.int .i64 d9, .int .i64 e0, .int .i64 e1, .int .i64 e2, .slice q4 e3.length q5, .int .i64 e4, .int .i64 e5, .int .i64 e6, .int .i64 e7, .slice q7 e8.length q8]) (ok := (fun k_ => (a7 k_ ∨ w.heap.size ≤ k_) ∧ some k_ ≠ (.slice e9 b8.length f0 : Value).ownBlock ∧ k_ ≠ a1)) ?hr ?hp (fun _ hk => hk) ((show ∀ k_, x5.heap.size ≤ k_ → (fun k_ => (a7 k_ ∨ w.heap.size ≤ k_) ∧ some k_ ≠ (.slice e9 b8.length f0 : Value).ownBlock ∧ k_ ≠ a1) k_ from fun k_ hk => ⟨(.inr (Nat.le_trans (below_size (zW HB.out)) hk)), Kd.fresh' (Kd.R_lt (zR c0.out)) k_ hk, Kd.freshB (g := a1) (o := .cells #[.int .i64 a4, .int .i64 a5, .int .i64 a6, .slice b1 a3.length b2, .int .i64 a9, .bool b3] 169 (0, 0)) (zK a2.out) k_ hk⟩) _ (Nat.le_refl _)) (Below.refl _ _) (Nat.le_refl _) (by simp) ?_; (case hd => rfl); (case hg => rfl); (case hr => first | (go_simp; done) | (go_simp; rfl)); (case hp => exact (Reps.c5 (show Kd.FK k75 _ _ (⟨d9, (⟨e0, e1, e2, e3⟩ : S32)⟩ : S75) [.int .i64 d9, .int .i64 e0, .int .i64 e1, .int .i64 e2, .slice q4 e3.length q5] from (k75_mkF _ _ (⟨d9, (⟨e0, e1, e2, e3⟩ : S32)⟩ : S75) (Kd.V_reads' (Kd.V_mono (ok' := (fun k_ => (a7 k_ ∨ w.heap.size ≤ k_) ∧ some k_ ≠ (.slice e9 b8.length f0 : Value).ownBlock ∧ k_ ≠ a1)) (b9.out) (fun k_ hk => ⟨hk.1.1.1, ⟨hk.1.2, hk.1.1.2⟩⟩))).2.1 (Kd.V_F (Kd.V_mono (ok' := (fun k_ => (a7 k_ ∨ w.heap.size ≤ k_) ∧ some k_ ≠ (.slice e9 b8.length f0 : Value).ownBlock ∧ k_ ≠ a1)) (b9.out) (fun k_ hk => ⟨hk.1.1.1, ⟨hk.1.2, hk.1.1.2⟩⟩))))) (Reps.c5 (show Kd.FK k75 _ _ (⟨e4, (⟨e5, e6, e7, e8⟩ : S32)⟩ : S75) [.int .i64 e4, .int .i64 e5, .int .i64 e6, .int .i64 e7, .slice q7 e8.length q8] from (k75_mkF _ _ (⟨e4, (⟨e5, e6, e7, e8⟩ : S32)⟩ : S75) (Kd.R_reads' (Kd.R_mono (ok' := (fun k_ => (a7 k_ ∨ w.heap.size ≤ k_) ∧ some k_ ≠ (.slice e9 b8.length f0 : Value).ownBlock ∧ k_ ≠ a1)) (Kd.R_types (m8.out) a2.out (by decide)) (fun k_ hk => ⟨(.inr (hk.1.1.1)), ⟨hk.1.2, hk.2⟩⟩))).2.1 (Kd.R_F (Kd.R_mono (ok' := (fun k_ => (a7 k_ ∨ w.heap.size ≤ k_) ∧ some k_ ≠ (.slice e9 b8.length f0 : Value).ownBlock ∧ k_ ≠ a1)) (Kd.R_types (m8.out) a2.out (by decide)) (fun k_ hk => ⟨(.inr (hk.1.1.1)), ⟨hk.1.2, hk.2⟩⟩))))) (Reps.none _ _))))
  intro F9 G0 f1 hb hg_ hnew_
  clear hg_ hnew_
  (first | rw [← q2.out] at f1 | (simp only [Int.reduceToNat] at f1; rw [← q2.out] at f1))
  replace b4 := zA (Kd.V_elder' (zV b4.out) (Kd.N_base f1) hb)
  replace b9 := zA (Kd.V_elder' (zV b9.out) (Kd.N_base f1) hb)
  replace c0 := zr c0 hb
  have x6 := zA (Kd.N_lower f1 (below_size (zW HB.out)))
  replace a2 := zb a2 hb
  replace HB := zh HB hb
  clear m8
  clear hb f1
  refine hK.out _ _ zO fun hHeld => ?_
  clear hK K
  refine zn ?_
  refine zp 6 4 ?_
  refine done_ (by kernel_rfl) ?_
  try go_wp2
  go_ret
  exact ⟨_, zE, zNt (Kd.N_mono x6.out (fun _ hk => hk.1)), zW HB.out⟩
 ·have d3 := beq_eq_false_iff_ne.mpr c3
  have d4 := bne_iff_ne.mpr c3
  replace H := zI1 H
  rcases H with ⟨d5, H⟩ | ⟨d5, H⟩
  ·have f2 := beq_iff_eq.mpr d5
   have f3 := bne_eq_false_iff_eq.mpr d5
   clear d5
   replace H := zj H
   obtain ⟨⟨f4, f5, f6, f7, f8⟩, x7, H⟩ := H
   try dsimp only at H
   replace H := zj H
   obtain ⟨⟨n7, n8, n9, c2⟩, x8, H⟩ := H
   try dsimp only at H
   replace H := zj H
   obtain ⟨⟨f9, g0, g1, g2, g3⟩, x9, H⟩ := H
   try dsimp only at H
   obtain ⟨y0, o0⟩ : ∃ y_ : List (S75), y_ = (([(⟨f4, (⟨f5, f6, f7, f8⟩ : S32)⟩ : S75), (⟨f9, (⟨g0, g1, g2, g3⟩ : S32)⟩ : S75)] : List (S75))) := ⟨_, rfl⟩
   replace H : (some y0) = some r := zY o0 H
   have r0 := Aside0.mk o0
   clear o0
   obtain rfl := Option.some.inj H
   (try simp only [d3, d4, f2, f3])
   try go_wp2
   replace b4 := zA (Kd.V_drew b4.out)
   replace a2 := zA (blk_drew a2.out)
   replace HB := zA (below_drew1 HB.out)
   refine start_ (n := 7) (S := fun w' => w'.cell? ⟨a1, 0, none⟩ = some (.int .i64 a4) ∧ w'.cell? ⟨a1, 1, none⟩ = some (.int .i64 a5) ∧ w'.cell? ⟨a1, 2, none⟩ = some (.int .i64 a6) ∧ w'.cell? ⟨a1, 3, none⟩ = some (.slice b1 a3.length b2) ∧ w'.cell? ⟨a1, 4, none⟩ = some (.int .i64 a9) ∧ w'.cell? ⟨a1, 5, none⟩ = some (.bool b3)) (ds := []) (Array.replicate 7 false) (by kernel_rfl) rfl rfl zO fun hHeld => ?_
   generalize w7.drew = G1 at b4 a2 HB hHeld ⊢
   refine zt 0 21 ?_
   refine zt 2 23 ?_
   refine zo 1 (some 22) fun K hK => ?_
   refine goes_ Tryz.func177 (by kernel_rfl) rfl #[.agg #[.int .i64 a4, .int .i64 a5, .int .i64 a6, .slice b1 a3.length b2, .int .i64 a9, .bool b3]] (by rfl) rfl rfl zM ?_
   with_reducible refine (spec_l4From.calls a4 a5 a6 (fun k_ => ((a7 k_ ∨ w.heap.size ≤ k_) ∧ k_ ≠ a1)) _ _ a3 a9 b3 f4 f5 f6 f7 f8 _ ?side1 x7.out).mono ?_
   (case side1 => exact b4.out)
   rintro e G2 ⟨G3, rfl, a8, hb⟩
   refine ⟨_, rfl, ?_⟩
   replace b4 := zA (Kd.V_below (zV b4.out) hb)
   have c7 := zA (Kd.V_lower (Kd.V_mono (ok' := fun k_ => (a7 k_ ∨ w.heap.size ≤ k_) ∧ k_ ≠ a1) a8 (fun k_ hk_ => ⟨Or.elim hk_ (fun hs_ => hs_.1) (fun hn_ => (.inr (Nat.le_trans (below_size (zW HB.out)) hn_))), Or.elim hk_ (fun hs_ => hs_.2) (fun hn_ => (Kd.freshB (g := a1) (o := .cells #[.int .i64 a4, .int .i64 a5, .int .i64 a6, .slice b1 a3.length b2, .int .i64 a9, .bool b3] 169 (0, 0)) (zK a2.out) k_ hn_))⟩)) (below_size (zW HB.out)))
   replace a2 := zb a2 hb
   replace HB := zh HB hb
   (try clear hb a8)
   refine hK.out _ _ zO fun hHeld => ?_
   clear hK K
   refine zn ?_
   refine zo 3 (some 24) fun K hK => ?_
   refine goes_ Tryz.func180 (by kernel_rfl) rfl #[.agg #[.int .i64 a4, .int .i64 a5, .int .i64 a6, .slice b1 a3.length b2, .int .i64 a9, .bool b3]] (by rfl) rfl rfl zM ?_
   with_reducible refine (spec_l4Tilde.calls a4 a5 a6 _ _ a3 a9 b3 n7 n8 n9 c2 _ ?side1 ?side2 x8.out).mono ?_
   (case side1 => repeat (first | exact (Kd.V_reads' b4.out).2.2 | (with_reducible refine Kd.C_alloc ?_ _) | (with_reducible refine Kd.C_drewN ?_ _) | (with_reducible refine Kd.C_drew ?_)))
   (case side2 => exact (Kd.V_reads' b4.out).2.1)
   rintro e G4 ⟨G5, rfl, a8, hb⟩
   refine ⟨_, rfl, ?_⟩
   replace b4 := zA (Kd.V_elder' (zV b4.out) (Kd.R_base a8) hb)
   replace c7 := zA (Kd.V_elder' (zV c7.out) (Kd.R_base a8) hb)
   have c8 := zA (Kd.R_lower (Kd.R_newM (M := fun k_ => (w.heap.size ≤ k_)) a8 (below_size (zW HB.out)) (fun k_ h_ => h_)) (below_size (zW HB.out)))
   replace a2 := zb a2 hb
   replace HB := zh HB hb
   (try clear hb a8)
   obtain ⟨g4, g5, r1⟩ := Kd.R_slice c8.out
   (first | subst r1 | (injection r1 with f1_ f2_ f3_; have b5 := f1_.symm; have b6 := f3_.symm; clear f1_ f2_ f3_; subst b5; subst b6))
   refine hK.out _ _ zO fun hHeld => ?_
   clear hK K
   refine zn ?_
   refine zo 4 (some 25) fun K hK => ?_
   refine goes_ Tryz.func178 (by kernel_rfl) rfl #[.agg #[.int .i64 n7, .int .i64 n8, .int .i64 n9, .slice g4 c2.length g5]] (by rfl) rfl rfl zM ?_
   with_reducible refine (spec_l4Below.calls n7 n8 n9 _ _ c2 f9 g0 g1 g2 g3 _ ?side1 ?side2 x9.out).mono ?_
   (case side1 => repeat (first | exact (Kd.R_reads' c8.out).2.2 | (with_reducible refine Kd.C_alloc ?_ _) | (with_reducible refine Kd.C_drewN ?_ _) | (with_reducible refine Kd.C_drew ?_)))
   (case side2 => exact (Kd.R_reads' c8.out).2.1)
   rintro e y1 ⟨G6, rfl, a8, hb⟩
   refine ⟨_, rfl, ?_⟩
   replace b4 := zA (Kd.V_elder' (zV b4.out) (Kd.R_base a8) hb)
   replace c7 := zA (Kd.V_elder' (zV c7.out) (Kd.R_base a8) hb)
   have m9 := zA (Kd.R_lower (Kd.R_new' (Kd.R_newM (M := fun k_ => (w.heap.size ≤ k_)) a8 (below_size (zW HB.out)) (fun k_ h_ => h_)) (Kd.R_lt (zR c8.out))) (below_size (zW HB.out)))
   replace c8 := zA (Kd.R_elder' (zR c8.out) (Kd.R_base a8) hb)
   replace a2 := zb a2 hb
   replace HB := zh HB hb
   (try clear hb a8)
   obtain ⟨r2, r3, r4⟩ := Kd.V_slice c7.out
   (first | subst r4 | (injection r4 with f1_ f2_ f3_; have b5 := f1_.symm; have b6 := f3_.symm; clear f1_ f2_ f3_; subst b5; subst b6))
   obtain ⟨r5, r6, r7⟩ := Kd.R_slice m9.out
   (first | subst r7 | (injection r7 with f1_ f2_ f3_; have b5 := f1_.symm; have b6 := f3_.symm; clear f1_ f2_ f3_; subst b5; subst b6))
   refine hK.out _ _ zO fun hHeld => ?_
   clear hK K
   refine zn ?_
   refine zo 5 (some 26) fun K hK => ?_
   refine Kd.N_lit_step k75 _ 75 ?hg (N' := 26) ?hd (xs := ([(⟨f4, (⟨f5, f6, f7, f8⟩ : S32)⟩ : S75), (⟨f9, (⟨g0, g1, g2, g3⟩ : S32)⟩ : S75)] : List (S75))) (inner := [.int .i64 f4, .int .i64 f5, .int .i64 f6, .int .i64 f7, .slice r2 f8.length r3, .int .i64 f9, .int .i64 g0, .int .i64 g1, .int .i64 g2, .slice r5 g3.length r6]) (ok := (fun k_ => (a7 k_ ∨ w.heap.size ≤ k_) ∧ some k_ ≠ (.slice g4 c2.length g5 : Value).ownBlock ∧ k_ ≠ a1)) ?hr ?hp (fun _ hk => hk) ((show ∀ k_, y1.heap.size ≤ k_ → (fun k_ => (a7 k_ ∨ w.heap.size ≤ k_) ∧ some k_ ≠ (.slice g4 c2.length g5 : Value).ownBlock ∧ k_ ≠ a1) k_ from fun k_ hk => ⟨(.inr (Nat.le_trans (below_size (zW HB.out)) hk)), Kd.fresh' (Kd.R_lt (zR c8.out)) k_ hk, Kd.freshB (g := a1) (o := .cells #[.int .i64 a4, .int .i64 a5, .int .i64 a6, .slice b1 a3.length b2, .int .i64 a9, .bool b3] 169 (0, 0)) (zK a2.out) k_ hk⟩) _ (Nat.le_refl _)) (Below.refl _ _) (Nat.le_refl _) (by simp) ?_; (case hd => rfl); (case hg => rfl); (case hr => first | (go_simp; done) | (go_simp; rfl)); (case hp => exact (Reps.c5 (show Kd.FK k75 _ _ (⟨f4, (⟨f5, f6, f7, f8⟩ : S32)⟩ : S75) [.int .i64 f4, .int .i64 f5, .int .i64 f6, .int .i64 f7, .slice r2 f8.length r3] from (k75_mkF _ _ (⟨f4, (⟨f5, f6, f7, f8⟩ : S32)⟩ : S75) (Kd.V_reads' (Kd.V_mono (ok' := (fun k_ => (a7 k_ ∨ w.heap.size ≤ k_) ∧ some k_ ≠ (.slice g4 c2.length g5 : Value).ownBlock ∧ k_ ≠ a1)) (c7.out) (fun k_ hk => ⟨hk.1.1.1, ⟨hk.1.2, hk.1.1.2⟩⟩))).2.1 (Kd.V_F (Kd.V_mono (ok' := (fun k_ => (a7 k_ ∨ w.heap.size ≤ k_) ∧ some k_ ≠ (.slice g4 c2.length g5 : Value).ownBlock ∧ k_ ≠ a1)) (c7.out) (fun k_ hk => ⟨hk.1.1.1, ⟨hk.1.2, hk.1.1.2⟩⟩))))) (Reps.c5 (show Kd.FK k75 _ _ (⟨f9, (⟨g0, g1, g2, g3⟩ : S32)⟩ : S75) [.int .i64 f9, .int .i64 g0, .int .i64 g1, .int .i64 g2, .slice r5 g3.length r6] from (k75_mkF _ _ (⟨f9, (⟨g0, g1, g2, g3⟩ : S32)⟩ : S75) (Kd.R_reads' (Kd.R_mono (ok' := (fun k_ => (a7 k_ ∨ w.heap.size ≤ k_) ∧ some k_ ≠ (.slice g4 c2.length g5 : Value).ownBlock ∧ k_ ≠ a1)) (Kd.R_types (m9.out) a2.out (by decide)) (fun k_ hk => ⟨(.inr (hk.1.1.1)), ⟨hk.1.2, hk.2⟩⟩))).2.1 (Kd.R_F (Kd.R_mono (ok' := (fun k_ => (a7 k_ ∨ w.heap.size ≤ k_) ∧ some k_ ≠ (.slice g4 c2.length g5 : Value).ownBlock ∧ k_ ≠ a1)) (Kd.R_types (m9.out) a2.out (by decide)) (fun k_ hk => ⟨(.inr (hk.1.1.1)), ⟨hk.1.2, hk.2⟩⟩))))) (Reps.none _ _))))
   intro G7 G8 g6 hb hg_ hnew_
   clear hg_ hnew_
   (first | rw [← r0.out] at g6 | (simp only [Int.reduceToNat] at g6; rw [← r0.out] at g6))
   replace b4 := zA (Kd.V_elder' (zV b4.out) (Kd.N_base g6) hb)
   replace c7 := zA (Kd.V_elder' (zV c7.out) (Kd.N_base g6) hb)
   replace c8 := zr c8 hb
   have y2 := zA (Kd.N_lower g6 (below_size (zW HB.out)))
   replace a2 := zb a2 hb
   replace HB := zh HB hb
   clear m9
   clear hb g6
   refine hK.out _ _ zO fun hHeld => ?_
   clear hK K
   refine zn ?_
   refine zp 6 4 ?_
   refine done_ (by kernel_rfl) ?_
   try go_wp2
   go_ret
   exact ⟨_, zE, zNt (Kd.N_mono y2.out (fun _ hk => hk.1)), zW HB.out⟩
  ·have f2 := beq_eq_false_iff_ne.mpr d5
   have f3 := bne_iff_ne.mpr d5
   replace H := zI1 H
   rcases H with ⟨d6, H⟩ | ⟨d6, H⟩
   ·have k1 := beq_iff_eq.mpr d6
    have k2 := bne_eq_false_iff_eq.mpr d6
    clear d6
    replace H := zj H
    obtain ⟨⟨g7, g8, g9, h0, h1⟩, y3, H⟩ := H
    try dsimp only at H
    obtain ⟨y4, o1⟩ : ∃ y_ : List (S75), y_ = (([(⟨g7, (⟨g8, g9, h0, h1⟩ : S32)⟩ : S75)] : List (S75))) := ⟨_, rfl⟩
    replace H : (some y4) = some r := zY o1 H
    have r8 := Aside0.mk o1
    clear o1
    obtain rfl := Option.some.inj H
    (try simp only [d3, d4, f2, f3, k1, k2])
    go_wp2_with (first | ((with_reducible refine zq 177 ?_); refine zg (some 31) Tryz.func177 #[.agg #[.int .i64 a4, .int .i64 a5, .int .i64 a6, .slice b1 a3.length b2, .int .i64 a9, .bool b3]] ?_; (with_reducible refine (spec_l4From.calls a4 a5 a6 (fun k_ => ((a7 k_ ∨ w.heap.size ≤ k_) ∧ k_ ≠ a1)) _ _ a3 a9 b3 g7 g8 g9 h0 h1 _ ?side1 y3.out).mono ?_); (case side1 => exact b4.out); rintro e y5 ⟨G9, rfl, a8, hb⟩; refine ⟨_, rfl, ?_⟩; replace b4 := zA (Kd.V_below (zV b4.out) hb); have l1 := zA (Kd.V_lower (Kd.V_mono (ok' := fun k_ => (a7 k_ ∨ w.heap.size ≤ k_) ∧ k_ ≠ a1) a8 (fun k_ hk_ => ⟨Or.elim hk_ (fun hs_ => hs_.1) (fun hn_ => (.inr (Nat.le_trans (below_size (zW HB.out)) hn_))), Or.elim hk_ (fun hs_ => hs_.2) (fun hn_ => (Kd.freshB (g := a1) (o := .cells #[.int .i64 a4, .int .i64 a5, .int .i64 a6, .slice b1 a3.length b2, .int .i64 a9, .bool b3] 169 (0, 0)) (zK a2.out) k_ hn_))⟩)) (below_size (zW HB.out))); replace a2 := zb a2 hb; replace HB := zh HB hb; (try clear hb a8); obtain ⟨r9, t0, y6⟩ := Kd.V_slice l1.out; subst y6) | ((with_reducible refine gate_dst (N := 32) rfl ?_); refine Kd.N_lit k75 _ 75 ?hg (N' := 32) ?hd (xs := ([(⟨g7, (⟨g8, g9, h0, h1⟩ : S32)⟩ : S75)] : List (S75))) (inner := [.int .i64 g7, .int .i64 g8, .int .i64 g9, .int .i64 h0, .slice r9 h1.length t0]) (ok := (fun k_ => (a7 k_ ∨ w.heap.size ≤ k_) ∧ k_ ≠ a1)) ?hr ?hp (fun _ hk => hk) ((show ∀ k_, y5.heap.size ≤ k_ → (fun k_ => (a7 k_ ∨ w.heap.size ≤ k_) ∧ k_ ≠ a1) k_ from fun k_ hk => ⟨(.inr (Nat.le_trans (below_size (zW HB.out)) hk)), Kd.freshB (g := a1) (o := .cells #[.int .i64 a4, .int .i64 a5, .int .i64 a6, .slice b1 a3.length b2, .int .i64 a9, .bool b3] 169 (0, 0)) (zK a2.out) k_ hk⟩) _ (Nat.le_refl _)) (Below.refl _ _) (Nat.le_refl _) (by simp) ?_; (case hd => rfl); (case hg => rfl); (case hr => first | (go_simp; done) | (go_simp; rfl)); (case hp => exact (Reps.c5 (show Kd.FK k75 _ _ (⟨g7, (⟨g8, g9, h0, h1⟩ : S32)⟩ : S75) [.int .i64 g7, .int .i64 g8, .int .i64 g9, .int .i64 h0, .slice r9 h1.length t0] from (k75_mkF _ _ (⟨g7, (⟨g8, g9, h0, h1⟩ : S32)⟩ : S75) (Kd.V_reads' (Kd.V_mono (ok' := (fun k_ => (a7 k_ ∨ w.heap.size ≤ k_) ∧ k_ ≠ a1)) (l1.out) (fun k_ hk => ⟨hk.1, hk.2⟩))).2.1 (Kd.V_F (Kd.V_mono (ok' := (fun k_ => (a7 k_ ∨ w.heap.size ≤ k_) ∧ k_ ≠ a1)) (l1.out) (fun k_ hk => ⟨hk.1, hk.2⟩))))) (Reps.none _ _))); intro I0 I1 h2 hb hg_ hnew_; clear hg_ hnew_; (first | rw [← r8.out] at h2 | (simp only [Int.reduceToNat] at h2; rw [← r8.out] at h2)); replace b4 := zA (Kd.V_elder' (zV b4.out) (Kd.N_base h2) hb); replace l1 := zA (Kd.V_elder' (zV l1.out) (Kd.N_base h2) hb); have y7 := zA (Kd.N_lower h2 (below_size (zW HB.out))); replace a2 := zb a2 hb; replace HB := zh HB hb; clear hb h2))
    go_ret
    exact ⟨_, zE, zNt (Kd.N_mono y7.out (fun _ hk => hk.1)), zW HB.out⟩
   ·have k1 := beq_eq_false_iff_ne.mpr d6
    have k2 := bne_iff_ne.mpr d6
    replace H := zI1 H
    rcases H with ⟨d7, H⟩ | ⟨d7, H⟩
    ·have l2 := beq_iff_eq.mpr d7
     have l3 := bne_eq_false_iff_eq.mpr d7
     clear d7
     obtain ⟨y8, o2⟩ : ∃ y_ : List (S75), y_ = (([(⟨1, (⟨a4, a5, a6, a3⟩ : S32)⟩ : S75)] : List (S75))) := ⟨_, rfl⟩
     replace H : (some y8) = some r := zY o2 H
     have t1 := Aside0.mk o2
     clear o2
     obtain rfl := Option.some.inj H
     (try simp only [d3, d4, f2, f3, k1, k2, l2, l3])
     go_wp2_with (first | ((with_reducible refine gate_dst (N := 39) rfl ?_); refine Kd.N_lit k75 _ 75 ?hg (N' := 39) ?hd (xs := ([(⟨1, (⟨a4, a5, a6, a3⟩ : S32)⟩ : S75)] : List (S75))) (inner := [.int .i64 1, .int .i64 a4, .int .i64 a5, .int .i64 a6, .slice b1 a3.length b2]) (ok := (fun k_ => (a7 k_ ∨ w.heap.size ≤ k_) ∧ k_ ≠ a1)) ?hr ?hp (fun _ hk => hk) ((show ∀ k_, w7.heap.size ≤ k_ → (fun k_ => (a7 k_ ∨ w.heap.size ≤ k_) ∧ k_ ≠ a1) k_ from fun k_ hk => ⟨(.inr (Nat.le_trans (below_size (zW HB.out)) hk)), Kd.freshB (g := a1) (o := .cells #[.int .i64 a4, .int .i64 a5, .int .i64 a6, .slice b1 a3.length b2, .int .i64 a9, .bool b3] 169 (0, 0)) (zK a2.out) k_ hk⟩) _ (Nat.le_refl _)) (Below.refl _ _) (Nat.le_refl _) (by simp) ?_; (case hd => rfl); (case hg => rfl); (case hr => first | (go_simp; done) | (go_simp; rfl)); (case hp => exact (Reps.c5 (show Kd.FK k75 _ _ (⟨1, (⟨a4, a5, a6, a3⟩ : S32)⟩ : S75) [.int .i64 1, .int .i64 a4, .int .i64 a5, .int .i64 a6, .slice b1 a3.length b2] from (k75_mkF _ _ (⟨1, (⟨a4, a5, a6, a3⟩ : S32)⟩ : S75) (Kd.V_reads' (Kd.V_mono (ok' := (fun k_ => (a7 k_ ∨ w.heap.size ≤ k_) ∧ k_ ≠ a1)) (b4.out) (fun k_ hk => ⟨hk.1, hk.2⟩))).2.1 (Kd.V_F (Kd.V_mono (ok' := (fun k_ => (a7 k_ ∨ w.heap.size ≤ k_) ∧ k_ ≠ a1)) (b4.out) (fun k_ hk => ⟨hk.1, hk.2⟩))))) (Reps.none _ _))); intro I2 I3 k3 hb hg_ hnew_; clear hg_ hnew_; (first | rw [← t1.out] at k3 | (simp only [Int.reduceToNat] at k3; rw [← t1.out] at k3)); replace b4 := zA (Kd.V_elder' (zV b4.out) (Kd.N_base k3) hb); have y9 := zA (Kd.N_lower k3 (below_size (zW HB.out))); replace a2 := zb a2 hb; replace HB := zh HB hb; clear hb k3))
     go_ret
     exact ⟨_, zE, zNt (Kd.N_mono y9.out (fun _ hk => hk.1)), zW HB.out⟩
    ·have l2 := beq_eq_false_iff_ne.mpr d7
     have l3 := bne_iff_ne.mpr d7
     have o3 := Aside0.mk H
     clear H
     (try simp only [d3, d4, f2, f3, k1, k2, l2, l3])
     go_upto_region 10 with fail
     (try simp only [Act.put, zT])
     go_cut [40] (fun z0 wc => ∃ (kq : Nat) (o4 : Bool), z0 = .bool o4 ∧ Aside0 (spec_l4Make.j0 kq a0 (a9 == 3) o4 a4 a5 a6 a3 a9 b3 = some r) ∧ Aside0 (kq ≤ k) ∧ Aside0 (Kd.V Kd.string 9 wc w.heap.size (fun k_ => (a7 k_ ∨ w.heap.size ≤ k_) ∧ k_ ≠ a1) (.slice b1 a3.length b2) a3) ∧ Aside0 (wc.heap[a1]? = some (.cells #[.int .i64 a4, .int .i64 a5, .int .i64 a6, (.slice b1 a3.length b2), .int .i64 a9, .bool b3] 169 (0, 0))) ∧ Aside0 (Below w.heap.size w wc))
     case first =>
      have H := o3.out
      clear o3
      replace H := zI1 H
      rcases H with ⟨d8, H⟩ | ⟨d8, H⟩
      ·have h3 := beq_iff_eq.mpr d8
       have o5 := bne_eq_false_iff_eq.mpr d8
       clear d8
       (first | rw [h3] | (simp only [i64_w, i32_w]; rw [h3]) | skip)
       have H' := Aside0.mk H
       clear H
       go_wp2
       go_meet
       case rel => exact ⟨_, ((a9 == 3)), zS, (by first | exact H' | (subst_vars; exact H')), ⟨by first | omega | exact Nat.le_refl _⟩, ⟨zV b4.out⟩, ⟨zK a2.out⟩, ⟨zW HB.out⟩⟩
      ·have h3 := beq_eq_false_iff_ne.mpr d8
       have o5 := bne_iff_ne.mpr d8
       (first | rw [h3] | (simp only [i64_w, i32_w]; rw [h3]) | skip)
       have H' := Aside0.mk H
       clear H
       go_wp2
       go_meet
       case rel => exact ⟨_, (false), zS, (by first | exact H' | (subst_vars; exact H')), ⟨by first | omega | exact Nat.le_refl _⟩, ⟨zV b4.out⟩, ⟨zK a2.out⟩, ⟨zW HB.out⟩⟩
     case rest =>
      clear o3
      try clear c1
      try clear p2
      try clear c3
      try clear d3
      try clear d4
      try clear c4
      try clear c5
      try clear c15
      try clear c17
      try clear d5
      try clear f2
      try clear f3
      try clear d6
      try clear k1
      try clear k2
      try clear d7
      try clear l2
      try clear l3
      try clear d8
      try clear h3
      try clear o5
      try clear hcz23_0 hcz23_1 hcz23_2 hcz23_3 hcz23_4 hcz23_5 hfz23_0 hfz23_1 hfz23_2 hfz23_3 hfz23_4 hfz23_5
      try clear hcz36_0 hcz36_1 hcz36_2 hcz36_3 hcz36_4 hcz36_5 hfz36_0 hfz36_1 hfz36_2 hfz36_3 hfz36_4 hfz36_5
      try clear hcz43_0 hcz43_1 hcz43_2 hcz43_3 hcz43_4 hcz43_5 hfz43_0 hfz43_1 hfz43_2 hfz43_3 hfz43_4 hfz43_5
      try clear l6 l7 l8 l9 m0 m1 m2 m3 m4 m5 m6 m7
      try clear l6 l7 l8 l9 m0 m1 m2 m3 m4 m5 m6 m7
      obtain ⟨kq, o4, rfl, HA, t2, b0, a2, HB⟩ := hcut
      cases kq with
      | zero => exact absurd HA.out (by simp [spec_l4Make.j0])
      | succ z1 =>
       have H := HA.out
       clear HA
       simp only [spec_l4Make.j0] at H
       replace H := zB0 H
       rcases H with ⟨rfl, H⟩ | ⟨rfl, H⟩
       ·obtain ⟨z2, o6⟩ : ∃ y_ : List (S75), y_ = (([(⟨3, (⟨a4, a5, a6, a3⟩ : S32)⟩ : S75)] : List (S75))) := ⟨_, rfl⟩
        replace H : (some z2) = some r := zY o6 H
        have t3 := Aside0.mk o6
        clear o6
        obtain rfl := Option.some.inj H
        obtain ⟨z3, z4, z5, z6, z7, z8, z9, A0, A1, A2, A3, A7⟩ := ze6 a2.out
        go_wp2_with (first | ((with_reducible refine gate_dst (N := 49) rfl ?_); refine Kd.N_lit k75 _ 75 ?hg (N' := 49) ?hd (xs := ([(⟨3, (⟨a4, a5, a6, a3⟩ : S32)⟩ : S75)] : List (S75))) (inner := [.int .i64 3, .int .i64 a4, .int .i64 a5, .int .i64 a6, .slice b1 a3.length b2]) (ok := (fun k_ => (a7 k_ ∨ w.heap.size ≤ k_) ∧ k_ ≠ a1)) ?hr ?hp (fun _ hk => hk) ((show ∀ k_, wc.heap.size ≤ k_ → (fun k_ => (a7 k_ ∨ w.heap.size ≤ k_) ∧ k_ ≠ a1) k_ from fun k_ hk => ⟨(.inr (Nat.le_trans (below_size (zW HB.out)) hk)), Kd.freshB (g := a1) (o := .cells #[.int .i64 a4, .int .i64 a5, .int .i64 a6, .slice b1 a3.length b2, .int .i64 a9, .bool b3] 169 (0, 0)) (zK a2.out) k_ hk⟩) _ (Nat.le_refl _)) (Below.refl _ _) (Nat.le_refl _) (by simp) ?_; (case hd => rfl); (case hg => rfl); (case hr => first | (go_simp; done) | (go_simp; rfl)); (case hp => exact (Reps.c5 (show Kd.FK k75 _ _ (⟨3, (⟨a4, a5, a6, a3⟩ : S32)⟩ : S75) [.int .i64 3, .int .i64 a4, .int .i64 a5, .int .i64 a6, .slice b1 a3.length b2] from (k75_mkF _ _ (⟨3, (⟨a4, a5, a6, a3⟩ : S32)⟩ : S75) (Kd.V_reads' (Kd.V_mono (ok' := (fun k_ => (a7 k_ ∨ w.heap.size ≤ k_) ∧ k_ ≠ a1)) (b0.out) (fun k_ hk => ⟨hk.1, hk.2⟩))).2.1 (Kd.V_F (Kd.V_mono (ok' := (fun k_ => (a7 k_ ∨ w.heap.size ≤ k_) ∧ k_ ≠ a1)) (b0.out) (fun k_ hk => ⟨hk.1, hk.2⟩))))) (Reps.none _ _))); intro I4 I5 k4 hb hg_ hnew_; clear hg_ hnew_; (first | rw [← t3.out] at k4 | (simp only [Int.reduceToNat] at k4; rw [← t3.out] at k4)); replace b0 := zA (Kd.V_elder' (zV b0.out) (Kd.N_base k4) hb); have A8 := zA (Kd.N_lower k4 (below_size (zW HB.out))); replace a2 := zb a2 hb; replace HB := zh HB hb; clear hb k4))
        go_ret
        exact ⟨_, zE, zNt (Kd.N_mono A8.out (fun _ hk => hk.1)), zW HB.out⟩
       ·replace H := zI1 H
        rcases H with ⟨h4, H⟩ | ⟨h4, H⟩
        ·have t4 := beq_iff_eq.mpr h4
         have t5 := bne_eq_false_iff_eq.mpr h4
         clear h4
         replace H := zj H
         obtain ⟨⟨h5, h6, h7, h8⟩, A9, H⟩ := H
         try dsimp only at H
         obtain ⟨B0, o7⟩ : ∃ y_ : List (S75), y_ = (([(⟨4, (⟨h5, h6, h7, h8⟩ : S32)⟩ : S75)] : List (S75))) := ⟨_, rfl⟩
         replace H : (some B0) = some r := zY o7 H
         have t6 := Aside0.mk o7
         clear o7
         obtain rfl := Option.some.inj H
         obtain ⟨B1, B2, B3, B4, B5, B6, B7, B8, B9, C0, C1, C2⟩ := ze6 a2.out
         go_wp2_with (first | ((with_reducible refine zq 181 ?_); refine zg (some 54) Tryz.func181 #[.agg #[.int .i64 a4, .int .i64 a5, .int .i64 a6, .slice b1 a3.length b2, .int .i64 a9, .bool b3]] ?_; (with_reducible refine (spec_l4Next.calls a4 a5 a6 _ _ a3 a9 b3 h5 h6 h7 h8 _ ?side1 ?side2 A9.out).mono ?_); (case side1 => repeat (first | exact (Kd.V_reads' b0.out).2.2 | (with_reducible refine Kd.C_alloc ?_ _) | (with_reducible refine Kd.C_drewN ?_ _) | (with_reducible refine Kd.C_drew ?_))); (case side2 => exact (Kd.V_reads' b0.out).2.1); rintro e C3 ⟨I6, rfl, a8, hb⟩; refine ⟨_, rfl, ?_⟩; replace b0 := zA (Kd.V_elder' (zV b0.out) (Kd.R_base a8) hb); have n0 := zA (Kd.R_lower (Kd.R_newM (M := fun k_ => (w.heap.size ≤ k_)) a8 (below_size (zW HB.out)) (fun k_ h_ => h_)) (below_size (zW HB.out))); replace a2 := zb a2 hb; replace HB := zh HB hb; (try clear hb a8); obtain ⟨t7, t8, C4⟩ := Kd.R_slice n0.out; subst C4) | ((with_reducible refine gate_dst (N := 56) rfl ?_); refine Kd.N_lit k75 _ 75 ?hg (N' := 56) ?hd (xs := ([(⟨4, (⟨h5, h6, h7, h8⟩ : S32)⟩ : S75)] : List (S75))) (inner := [.int .i64 4, .int .i64 h5, .int .i64 h6, .int .i64 h7, .slice t7 h8.length t8]) (ok := (fun k_ => (a7 k_ ∨ w.heap.size ≤ k_) ∧ k_ ≠ a1)) ?hr ?hp (fun _ hk => hk) ((show ∀ k_, C3.heap.size ≤ k_ → (fun k_ => (a7 k_ ∨ w.heap.size ≤ k_) ∧ k_ ≠ a1) k_ from fun k_ hk => ⟨(.inr (Nat.le_trans (below_size (zW HB.out)) hk)), Kd.freshB (g := a1) (o := .cells #[.int .i64 a4, .int .i64 a5, .int .i64 a6, .slice b1 a3.length b2, .int .i64 a9, .bool b3] 169 (0, 0)) (zK a2.out) k_ hk⟩) _ (Nat.le_refl _)) (Below.refl _ _) (Nat.le_refl _) (by simp) ?_; (case hd => rfl); (case hg => rfl); (case hr => first | (go_simp; done) | (go_simp; rfl)); (case hp => exact (Reps.c5 (show Kd.FK k75 _ _ (⟨4, (⟨h5, h6, h7, h8⟩ : S32)⟩ : S75) [.int .i64 4, .int .i64 h5, .int .i64 h6, .int .i64 h7, .slice t7 h8.length t8] from (k75_mkF _ _ (⟨4, (⟨h5, h6, h7, h8⟩ : S32)⟩ : S75) (Kd.R_reads' (Kd.R_mono (ok' := (fun k_ => (a7 k_ ∨ w.heap.size ≤ k_) ∧ k_ ≠ a1)) (Kd.R_types (n0.out) a2.out (by decide)) (fun k_ hk => ⟨(.inr (hk.1.1)), hk.2⟩))).2.1 (Kd.R_F (Kd.R_mono (ok' := (fun k_ => (a7 k_ ∨ w.heap.size ≤ k_) ∧ k_ ≠ a1)) (Kd.R_types (n0.out) a2.out (by decide)) (fun k_ hk => ⟨(.inr (hk.1.1)), hk.2⟩))))) (Reps.none _ _))); intro I7 I8 k5 hb hg_ hnew_; clear hg_ hnew_; (first | rw [← t6.out] at k5 | (simp only [Int.reduceToNat] at k5; rw [← t6.out] at k5)); replace b0 := zA (Kd.V_elder' (zV b0.out) (Kd.N_base k5) hb); have C5 := zA (Kd.N_lower k5 (below_size (zW HB.out))); replace a2 := zb a2 hb; replace HB := zh HB hb; clear n0; clear hb k5))
         go_ret
         exact ⟨_, zE, zNt (Kd.N_mono C5.out (fun _ hk => hk.1)), zW HB.out⟩
        ·have t4 := beq_eq_false_iff_ne.mpr h4
         have t5 := bne_iff_ne.mpr h4
         have o8 := Aside0.mk H
         clear H
         go_upto_region 14 with (fail)
         go_cut [57] (fun C6 wc => ∃ (kq : Nat) (o9 : Bool), C6 = .bool o9 ∧ Aside0 (spec_l4Make.j1 kq a0 (a9 == 3) o9 a4 a5 a6 a3 a9 b3 = some r) ∧ Aside0 (kq ≤ z1) ∧ Aside0 (Kd.V Kd.string 9 wc w.heap.size (fun k_ => (a7 k_ ∨ w.heap.size ≤ k_) ∧ k_ ≠ a1) (.slice b1 a3.length b2) a3) ∧ Aside0 (wc.heap[a1]? = some (.cells #[.int .i64 a4, .int .i64 a5, .int .i64 a6, (.slice b1 a3.length b2), .int .i64 a9, .bool b3] 169 (0, 0))) ∧ Aside0 (Below w.heap.size w wc))
         case first =>
          have H := o8.out
          clear o8
          replace H := zI1 H
          rcases H with ⟨h9, H⟩ | ⟨h9, H⟩
          ·have k6 := beq_iff_eq.mpr h9
           have t9 := bne_eq_false_iff_eq.mpr h9
           clear h9
           (first | rw [k6] | (simp only [i64_w, i32_w]; rw [k6]) | skip)
           have H' := Aside0.mk H
           clear H
           go_wp2
           go_meet
           case rel => exact ⟨_, ((a9 == 3)), zS, (by first | exact H' | (subst_vars; exact H')), ⟨by have := t2.out; first | omega | exact Nat.le_refl _⟩, ⟨zV b0.out⟩, ⟨zK a2.out⟩, ⟨zW HB.out⟩⟩
          ·have k6 := beq_eq_false_iff_ne.mpr h9
           have t9 := bne_iff_ne.mpr h9
           (first | rw [k6] | (simp only [i64_w, i32_w]; rw [k6]) | skip)
           have H' := Aside0.mk H
           clear H
           go_wp2
           go_meet
           case rel => exact ⟨_, (false), zS, (by first | exact H' | (subst_vars; exact H')), ⟨by have := t2.out; first | omega | exact Nat.le_refl _⟩, ⟨zV b0.out⟩, ⟨zK a2.out⟩, ⟨zW HB.out⟩⟩
         case rest =>
          clear o8
          try clear c1
          try clear p2
          try clear c3
          try clear d3
          try clear d4
          try clear c4
          try clear c5
          try clear c6
          try clear c15
          try clear c17
          try clear d5
          try clear f2
          try clear f3
          try clear d6
          try clear k1
          try clear k2
          try clear d7
          try clear l2
          try clear l3
          try clear d8
          try clear h3
          try clear o5
          try clear c50
          try clear h4
          try clear t4
          try clear t5
          try clear h9
          try clear k6
          try clear t9
          try clear hcz23_0 hcz23_1 hcz23_2 hcz23_3 hcz23_4 hcz23_5 hfz23_0 hfz23_1 hfz23_2 hfz23_3 hfz23_4 hfz23_5
          try clear hcz36_0 hcz36_1 hcz36_2 hcz36_3 hcz36_4 hcz36_5 hfz36_0 hfz36_1 hfz36_2 hfz36_3 hfz36_4 hfz36_5
          try clear hcz43_0 hcz43_1 hcz43_2 hcz43_3 hcz43_4 hcz43_5 hfz43_0 hfz43_1 hfz43_2 hfz43_3 hfz43_4 hfz43_5
          try clear l6 l7 l8 l9 m0 m1 m2 m3 m4 m5 m6 m7
          try clear z3 z4 z5 z6 z7 z8 z9 A0 A1 A2 A3 A7
          try clear B1 B2 B3 B4 B5 B6 B7 B8 B9 C0 C1 C2
          try clear l6 l7 l8 l9 m0 m1 m2 m3 m4 m5 m6 m7
          try clear p2
          obtain ⟨kq, o9, rfl, HA, I9, b0, a2, HB⟩ := hcut
          cases kq with
          | zero => exact absurd HA.out (by simp [spec_l4Make.j1])
          | succ J0 =>
           have H := HA.out
           clear HA
           simp only [spec_l4Make.j1] at H
           replace H := zB0 H
           rcases H with ⟨rfl, H⟩ | ⟨rfl, H⟩
           ·obtain ⟨C7, p0⟩ : ∃ y_ : List (S75), y_ = (([(⟨2, (⟨a4, a5, a6, a3⟩ : S32)⟩ : S75)] : List (S75))) := ⟨_, rfl⟩
            replace H : (some C7) = some r := zY p0 H
            have v0 := Aside0.mk p0
            clear p0
            obtain rfl := Option.some.inj H
            obtain ⟨J1, J2, J3, J4, J5, J6, J7, J8, J9, L0, L1, L2⟩ := ze6 a2.out
            go_wp2_with (first | ((with_reducible refine gate_dst (N := 66) rfl ?_); refine Kd.N_lit k75 _ 75 ?hg (N' := 66) ?hd (xs := ([(⟨2, (⟨a4, a5, a6, a3⟩ : S32)⟩ : S75)] : List (S75))) (inner := [.int .i64 2, .int .i64 a4, .int .i64 a5, .int .i64 a6, .slice b1 a3.length b2]) (ok := (fun k_ => (a7 k_ ∨ w.heap.size ≤ k_) ∧ k_ ≠ a1)) ?hr ?hp (fun _ hk => hk) ((show ∀ k_, wc.heap.size ≤ k_ → (fun k_ => (a7 k_ ∨ w.heap.size ≤ k_) ∧ k_ ≠ a1) k_ from fun k_ hk => ⟨(.inr (Nat.le_trans (below_size (zW HB.out)) hk)), Kd.freshB (g := a1) (o := .cells #[.int .i64 a4, .int .i64 a5, .int .i64 a6, .slice b1 a3.length b2, .int .i64 a9, .bool b3] 169 (0, 0)) (zK a2.out) k_ hk⟩) _ (Nat.le_refl _)) (Below.refl _ _) (Nat.le_refl _) (by simp) ?_; (case hd => rfl); (case hg => rfl); (case hr => first | (go_simp; done) | (go_simp; rfl)); (case hp => exact (Reps.c5 (show Kd.FK k75 _ _ (⟨2, (⟨a4, a5, a6, a3⟩ : S32)⟩ : S75) [.int .i64 2, .int .i64 a4, .int .i64 a5, .int .i64 a6, .slice b1 a3.length b2] from (k75_mkF _ _ (⟨2, (⟨a4, a5, a6, a3⟩ : S32)⟩ : S75) (Kd.V_reads' (Kd.V_mono (ok' := (fun k_ => (a7 k_ ∨ w.heap.size ≤ k_) ∧ k_ ≠ a1)) (b0.out) (fun k_ hk => ⟨hk.1, hk.2⟩))).2.1 (Kd.V_F (Kd.V_mono (ok' := (fun k_ => (a7 k_ ∨ w.heap.size ≤ k_) ∧ k_ ≠ a1)) (b0.out) (fun k_ hk => ⟨hk.1, hk.2⟩))))) (Reps.none _ _))); intro L3 L4 k7 hb hg_ hnew_; clear hg_ hnew_; (first | rw [← v0.out] at k7 | (simp only [Int.reduceToNat] at k7; rw [← v0.out] at k7)); replace b0 := zA (Kd.V_elder' (zV b0.out) (Kd.N_base k7) hb); have C8 := zA (Kd.N_lower k7 (below_size (zW HB.out))); replace a2 := zb a2 hb; replace HB := zh HB hb; clear hb k7))
            go_ret
            exact ⟨_, zE, zNt (Kd.N_mono C8.out (fun _ hk => hk.1)), zW HB.out⟩
           ·replace H := zI1 H
            rcases H with ⟨k8, H⟩ | ⟨k8, H⟩
            ·have C9 := beq_iff_eq.mpr k8
             have D0 := bne_eq_false_iff_eq.mpr k8
             clear k8
             replace H := zj H
             obtain ⟨⟨p1, p3, p4, i0⟩, D1, H⟩ := H
             try dsimp only at H
             replace H := zj H
             obtain ⟨⟨i1, i2, i3, i4, i5⟩, D2, H⟩ := H
             try dsimp only at H
             obtain ⟨D3, p5⟩ : ∃ y_ : List (S75), y_ = (([(⟨i1, (⟨i2, i3, i4, i5⟩ : S32)⟩ : S75)] : List (S75))) := ⟨_, rfl⟩
             replace H : (some D3) = some r := zY p5 H
             have v1 := Aside0.mk p5
             clear p5
             obtain rfl := Option.some.inj H
             obtain ⟨L5, L6, L7, L8, L9, M0, M1, M2, M3, M4, M5, M6⟩ := ze6 a2.out
             go_wp2_with (first | ((with_reducible refine zq 181 ?_); refine zg (some 71) Tryz.func181 #[.agg #[.int .i64 a4, .int .i64 a5, .int .i64 a6, .slice b1 a3.length b2, .int .i64 a9, .bool b3]] ?_; (with_reducible refine (spec_l4Next.calls a4 a5 a6 _ _ a3 a9 b3 p1 p3 p4 i0 _ ?side1 ?side2 D1.out).mono ?_); (case side1 => repeat (first | exact (Kd.V_reads' b0.out).2.2 | (with_reducible refine Kd.C_alloc ?_ _) | (with_reducible refine Kd.C_drewN ?_ _) | (with_reducible refine Kd.C_drew ?_))); (case side2 => exact (Kd.V_reads' b0.out).2.1); rintro e M7 ⟨M8, rfl, a8, hb⟩; refine ⟨_, rfl, ?_⟩; replace b0 := zA (Kd.V_elder' (zV b0.out) (Kd.R_base a8) hb); have c9 := zA (Kd.R_lower (Kd.R_newM (M := fun k_ => (w.heap.size ≤ k_)) a8 (below_size (zW HB.out)) (fun k_ h_ => h_)) (below_size (zW HB.out))); replace a2 := zb a2 hb; replace HB := zh HB hb; (try clear hb a8); obtain ⟨l4, l5, D4⟩ := Kd.R_slice c9.out; subst D4) | ((with_reducible refine zq 178 ?_); refine zg (some 72) Tryz.func178 #[.agg #[.int .i64 p1, .int .i64 p3, .int .i64 p4, .slice l4 i0.length l5]] ?_; (with_reducible refine (spec_l4Below.calls p1 p3 p4 _ _ i0 i1 i2 i3 i4 i5 _ ?side1 ?side2 D2.out).mono ?_); (case side1 => repeat (first | exact (Kd.R_reads' c9.out).2.2 | (with_reducible refine Kd.C_alloc ?_ _) | (with_reducible refine Kd.C_drewN ?_ _) | (with_reducible refine Kd.C_drew ?_))); (case side2 => exact (Kd.R_reads' c9.out).2.1); rintro e D5 ⟨M9, rfl, a8, hb⟩; refine ⟨_, rfl, ?_⟩; replace b0 := zA (Kd.V_elder' (zV b0.out) (Kd.R_base a8) hb); have n1 := zA (Kd.R_lower (Kd.R_new' (Kd.R_newM (M := fun k_ => (w.heap.size ≤ k_)) a8 (below_size (zW HB.out)) (fun k_ h_ => h_)) (Kd.R_lt (zR c9.out))) (below_size (zW HB.out))); replace c9 := zA (Kd.R_elder' (zR c9.out) (Kd.R_base a8) hb); replace a2 := zb a2 hb; replace HB := zh HB hb; (try clear hb a8); obtain ⟨v2, v3, D6⟩ := Kd.R_slice n1.out; subst D6) | ((with_reducible refine gate_dst (N := 73) rfl ?_); refine Kd.N_lit k75 _ 75 ?hg (N' := 73) ?hd (xs := ([(⟨i1, (⟨i2, i3, i4, i5⟩ : S32)⟩ : S75)] : List (S75))) (inner := [.int .i64 i1, .int .i64 i2, .int .i64 i3, .int .i64 i4, .slice v2 i5.length v3]) (ok := (fun k_ => (a7 k_ ∨ w.heap.size ≤ k_) ∧ some k_ ≠ (.slice l4 i0.length l5 : Value).ownBlock ∧ k_ ≠ a1)) ?hr ?hp (fun _ hk => hk) ((show ∀ k_, D5.heap.size ≤ k_ → (fun k_ => (a7 k_ ∨ w.heap.size ≤ k_) ∧ some k_ ≠ (.slice l4 i0.length l5 : Value).ownBlock ∧ k_ ≠ a1) k_ from fun k_ hk => ⟨(.inr (Nat.le_trans (below_size (zW HB.out)) hk)), Kd.fresh' (Kd.R_lt (zR c9.out)) k_ hk, Kd.freshB (g := a1) (o := .cells #[.int .i64 a4, .int .i64 a5, .int .i64 a6, .slice b1 a3.length b2, .int .i64 a9, .bool b3] 169 (0, 0)) (zK a2.out) k_ hk⟩) _ (Nat.le_refl _)) (Below.refl _ _) (Nat.le_refl _) (by simp) ?_; (case hd => rfl); (case hg => rfl); (case hr => first | (go_simp; done) | (go_simp; rfl)); (case hp => exact (Reps.c5 (show Kd.FK k75 _ _ (⟨i1, (⟨i2, i3, i4, i5⟩ : S32)⟩ : S75) [.int .i64 i1, .int .i64 i2, .int .i64 i3, .int .i64 i4, .slice v2 i5.length v3] from (k75_mkF _ _ (⟨i1, (⟨i2, i3, i4, i5⟩ : S32)⟩ : S75) (Kd.R_reads' (Kd.R_mono (ok' := (fun k_ => (a7 k_ ∨ w.heap.size ≤ k_) ∧ some k_ ≠ (.slice l4 i0.length l5 : Value).ownBlock ∧ k_ ≠ a1)) (Kd.R_types (n1.out) a2.out (by decide)) (fun k_ hk => ⟨(.inr (hk.1.1.1)), ⟨hk.1.2, hk.2⟩⟩))).2.1 (Kd.R_F (Kd.R_mono (ok' := (fun k_ => (a7 k_ ∨ w.heap.size ≤ k_) ∧ some k_ ≠ (.slice l4 i0.length l5 : Value).ownBlock ∧ k_ ≠ a1)) (Kd.R_types (n1.out) a2.out (by decide)) (fun k_ hk => ⟨(.inr (hk.1.1.1)), ⟨hk.1.2, hk.2⟩⟩))))) (Reps.none _ _))); intro N0 N1 k9 hb hg_ hnew_; clear hg_ hnew_; (first | rw [← v1.out] at k9 | (simp only [Int.reduceToNat] at k9; rw [← v1.out] at k9)); replace b0 := zA (Kd.V_elder' (zV b0.out) (Kd.N_base k9) hb); replace c9 := zr c9 hb; have D7 := zA (Kd.N_lower k9 (below_size (zW HB.out))); replace a2 := zb a2 hb; replace HB := zh HB hb; clear n1; clear hb k9))
             go_ret
             exact ⟨_, zE, zNt (Kd.N_mono D7.out (fun _ hk => hk.1)), zW HB.out⟩
            ·have C9 := beq_eq_false_iff_ne.mpr k8
             have D0 := bne_iff_ne.mpr k8
             replace H := zI1 H
             rcases H with ⟨b7, H⟩ | ⟨b7, H⟩
             ·have D8 : (a9 == 3) = true := b7
              (try (have D9 : decide (a9 = 3) = true := by simpa using b7))
              (try (have E0 : (a9 == 3) = true := by simpa using b7))
              clear b7
              obtain ⟨E1, p6⟩ : ∃ y_ : List (S75), y_ = (([(⟨0, (⟨a4, a5, a6, a3⟩ : S32)⟩ : S75)] : List (S75))) := ⟨_, rfl⟩
              replace H : (some E1) = some r := zY p6 H
              have v4 := Aside0.mk p6
              clear p6
              obtain rfl := Option.some.inj H
              obtain ⟨N2, N3, N4, N5, N6, N7, N8, N9, O0, O1, O2, O3⟩ := ze6 a2.out
              go_wp2_with (first | ((with_reducible refine gate_dst (N := 79) rfl ?_); refine Kd.N_lit k75 _ 75 ?hg (N' := 79) ?hd (xs := ([(⟨0, (⟨a4, a5, a6, a3⟩ : S32)⟩ : S75)] : List (S75))) (inner := [.int .i64 0, .int .i64 a4, .int .i64 a5, .int .i64 a6, .slice b1 a3.length b2]) (ok := (fun k_ => (a7 k_ ∨ w.heap.size ≤ k_) ∧ k_ ≠ a1)) ?hr ?hp (fun _ hk => hk) ((show ∀ k_, wc.heap.size ≤ k_ → (fun k_ => (a7 k_ ∨ w.heap.size ≤ k_) ∧ k_ ≠ a1) k_ from fun k_ hk => ⟨(.inr (Nat.le_trans (below_size (zW HB.out)) hk)), Kd.freshB (g := a1) (o := .cells #[.int .i64 a4, .int .i64 a5, .int .i64 a6, .slice b1 a3.length b2, .int .i64 a9, .bool b3] 169 (0, 0)) (zK a2.out) k_ hk⟩) _ (Nat.le_refl _)) (Below.refl _ _) (Nat.le_refl _) (by simp) ?_; (case hd => rfl); (case hg => rfl); (case hr => first | (go_simp; done) | (go_simp; rfl)); (case hp => exact (Reps.c5 (show Kd.FK k75 _ _ (⟨0, (⟨a4, a5, a6, a3⟩ : S32)⟩ : S75) [.int .i64 0, .int .i64 a4, .int .i64 a5, .int .i64 a6, .slice b1 a3.length b2] from (k75_mkF _ _ (⟨0, (⟨a4, a5, a6, a3⟩ : S32)⟩ : S75) (Kd.V_reads' (Kd.V_mono (ok' := (fun k_ => (a7 k_ ∨ w.heap.size ≤ k_) ∧ k_ ≠ a1)) (b0.out) (fun k_ hk => ⟨hk.1, hk.2⟩))).2.1 (Kd.V_F (Kd.V_mono (ok' := (fun k_ => (a7 k_ ∨ w.heap.size ≤ k_) ∧ k_ ≠ a1)) (b0.out) (fun k_ hk => ⟨hk.1, hk.2⟩))))) (Reps.none _ _))); intro O4 O5 l0 hb hg_ hnew_; clear hg_ hnew_; (first | rw [← v4.out] at l0 | (simp only [Int.reduceToNat] at l0; rw [← v4.out] at l0)); replace b0 := zA (Kd.V_elder' (zV b0.out) (Kd.N_base l0) hb); have E2 := zA (Kd.N_lower l0 (below_size (zW HB.out))); replace a2 := zb a2 hb; replace HB := zh HB hb; clear hb l0))
              go_ret
              exact ⟨_, zE, zNt (Kd.N_mono E2.out (fun _ hk => hk.1)), zW HB.out⟩
             ·have D8 : (a9 == 3) = false := by simpa using b7
              (try (have D9 : decide (a9 = 3) = false := by simpa using b7))
              (try (have E0 : (a9 == 3) = false := by simpa using b7))
              (try (have O6 : ¬ (a9 = 3) := by simpa using b7))
              clear b7
              replace H := zj H
              obtain ⟨⟨i6, i7, i8, i9, j2⟩, E3, H⟩ := H
              try dsimp only at H
              replace H := zj H
              obtain ⟨⟨p7, p8, p9, d0⟩, E4, H⟩ := H
              try dsimp only at H
              replace H := zj H
              obtain ⟨⟨j3, j4, j5, j6, j7⟩, E5, H⟩ := H
              try dsimp only at H
              obtain ⟨E6, q0⟩ : ∃ y_ : List (S75), y_ = (([(⟨i6, (⟨i7, i8, i9, j2⟩ : S32)⟩ : S75), (⟨j3, (⟨j4, j5, j6, j7⟩ : S32)⟩ : S75)] : List (S75))) := ⟨_, rfl⟩
              replace H : (some E6) = some r := zY q0 H
              have v5 := Aside0.mk q0
              clear q0
              obtain rfl := Option.some.inj H
              try go_wp2
              replace b0 := zA (Kd.V_drew b0.out)
              replace a2 := zA (blk_drew a2.out)
              replace HB := zA (below_drew1 HB.out)
              refine start_ (n := 7) (S := fun w' => w'.cell? ⟨a1, 0, none⟩ = some (.int .i64 a4) ∧ w'.cell? ⟨a1, 1, none⟩ = some (.int .i64 a5) ∧ w'.cell? ⟨a1, 2, none⟩ = some (.int .i64 a6) ∧ w'.cell? ⟨a1, 3, none⟩ = some (.slice b1 a3.length b2) ∧ w'.cell? ⟨a1, 4, none⟩ = some (.int .i64 a9) ∧ w'.cell? ⟨a1, 5, none⟩ = some (.bool b3)) (ds := []) (Array.replicate 7 false) (by kernel_rfl) rfl rfl zO fun hHeld => ?_
              generalize wc.drew = O7 at b0 a2 HB hHeld ⊢
              refine zt 0 80 ?_
              refine zt 2 82 ?_
              refine zo 1 (some 81) fun K hK => ?_
              refine goes_ Tryz.func177 (by kernel_rfl) rfl #[.agg #[.int .i64 a4, .int .i64 a5, .int .i64 a6, .slice b1 a3.length b2, .int .i64 a9, .bool b3]] (by rfl) rfl rfl zM ?_
              with_reducible refine (spec_l4From.calls a4 a5 a6 (fun k_ => ((a7 k_ ∨ w.heap.size ≤ k_) ∧ k_ ≠ a1)) _ _ a3 a9 b3 i6 i7 i8 i9 j2 _ ?side1 E3.out).mono ?_
              (case side1 => exact b0.out)
              rintro e O8 ⟨O9, rfl, a8, hb⟩
              refine ⟨_, rfl, ?_⟩
              replace b0 := zA (Kd.V_below (zV b0.out) hb)
              have d1 := zA (Kd.V_lower (Kd.V_mono (ok' := fun k_ => (a7 k_ ∨ w.heap.size ≤ k_) ∧ k_ ≠ a1) a8 (fun k_ hk_ => ⟨Or.elim hk_ (fun hs_ => hs_.1) (fun hn_ => (.inr (Nat.le_trans (below_size (zW HB.out)) hn_))), Or.elim hk_ (fun hs_ => hs_.2) (fun hn_ => (Kd.freshB (g := a1) (o := .cells #[.int .i64 a4, .int .i64 a5, .int .i64 a6, .slice b1 a3.length b2, .int .i64 a9, .bool b3] 169 (0, 0)) (zK a2.out) k_ hn_))⟩)) (below_size (zW HB.out)))
              replace a2 := zb a2 hb
              replace HB := zh HB hb
              (try clear hb a8)
              refine hK.out _ _ zO fun hHeld => ?_
              clear hK K
              refine zn ?_
              refine zo 3 (some 83) fun K hK => ?_
              refine goes_ Tryz.func181 (by kernel_rfl) rfl #[.agg #[.int .i64 a4, .int .i64 a5, .int .i64 a6, .slice b1 a3.length b2, .int .i64 a9, .bool b3]] (by rfl) rfl rfl zM ?_
              with_reducible refine (spec_l4Next.calls a4 a5 a6 _ _ a3 a9 b3 p7 p8 p9 d0 _ ?side1 ?side2 E4.out).mono ?_
              (case side1 => repeat (first | exact (Kd.V_reads' b0.out).2.2 | (with_reducible refine Kd.C_alloc ?_ _) | (with_reducible refine Kd.C_drewN ?_ _) | (with_reducible refine Kd.C_drew ?_)))
              (case side2 => exact (Kd.V_reads' b0.out).2.1)
              rintro e P0 ⟨P1, rfl, a8, hb⟩
              refine ⟨_, rfl, ?_⟩
              replace b0 := zA (Kd.V_elder' (zV b0.out) (Kd.R_base a8) hb)
              replace d1 := zA (Kd.V_elder' (zV d1.out) (Kd.R_base a8) hb)
              have d2 := zA (Kd.R_lower (Kd.R_newM (M := fun k_ => (w.heap.size ≤ k_)) a8 (below_size (zW HB.out)) (fun k_ h_ => h_)) (below_size (zW HB.out)))
              replace a2 := zb a2 hb
              replace HB := zh HB hb
              (try clear hb a8)
              obtain ⟨j8, j9, v6⟩ := Kd.R_slice d2.out
              (first | subst v6 | (injection v6 with f1_ f2_ f3_; have b5 := f1_.symm; have b6 := f3_.symm; clear f1_ f2_ f3_; subst b5; subst b6))
              refine hK.out _ _ zO fun hHeld => ?_
              clear hK K
              refine zn ?_
              refine zo 4 (some 84) fun K hK => ?_
              refine goes_ Tryz.func178 (by kernel_rfl) rfl #[.agg #[.int .i64 p7, .int .i64 p8, .int .i64 p9, .slice j8 d0.length j9]] (by rfl) rfl rfl zM ?_
              with_reducible refine (spec_l4Below.calls p7 p8 p9 _ _ d0 j3 j4 j5 j6 j7 _ ?side1 ?side2 E5.out).mono ?_
              (case side1 => repeat (first | exact (Kd.R_reads' d2.out).2.2 | (with_reducible refine Kd.C_alloc ?_ _) | (with_reducible refine Kd.C_drewN ?_ _) | (with_reducible refine Kd.C_drew ?_)))
              (case side2 => exact (Kd.R_reads' d2.out).2.1)
              rintro e E7 ⟨P2, rfl, a8, hb⟩
              refine ⟨_, rfl, ?_⟩
              replace b0 := zA (Kd.V_elder' (zV b0.out) (Kd.R_base a8) hb)
              replace d1 := zA (Kd.V_elder' (zV d1.out) (Kd.R_base a8) hb)
              have n2 := zA (Kd.R_lower (Kd.R_new' (Kd.R_newM (M := fun k_ => (w.heap.size ≤ k_)) a8 (below_size (zW HB.out)) (fun k_ h_ => h_)) (Kd.R_lt (zR d2.out))) (below_size (zW HB.out)))
              replace d2 := zA (Kd.R_elder' (zR d2.out) (Kd.R_base a8) hb)
              replace a2 := zb a2 hb
              replace HB := zh HB hb
              (try clear hb a8)
              obtain ⟨v7, v8, v9⟩ := Kd.V_slice d1.out
              (first | subst v9 | (injection v9 with f1_ f2_ f3_; have b5 := f1_.symm; have b6 := f3_.symm; clear f1_ f2_ f3_; subst b5; subst b6))
              obtain ⟨x0, x1, x2⟩ := Kd.R_slice n2.out
              (first | subst x2 | (injection x2 with f1_ f2_ f3_; have b5 := f1_.symm; have b6 := f3_.symm; clear f1_ f2_ f3_; subst b5; subst b6))
              refine hK.out _ _ zO fun hHeld => ?_
              clear hK K
              refine zn ?_
              refine zo 5 (some 85) fun K hK => ?_
              refine Kd.N_lit_step k75 _ 75 ?hg (N' := 85) ?hd (xs := ([(⟨i6, (⟨i7, i8, i9, j2⟩ : S32)⟩ : S75), (⟨j3, (⟨j4, j5, j6, j7⟩ : S32)⟩ : S75)] : List (S75))) (inner := [.int .i64 i6, .int .i64 i7, .int .i64 i8, .int .i64 i9, .slice v7 j2.length v8, .int .i64 j3, .int .i64 j4, .int .i64 j5, .int .i64 j6, .slice x0 j7.length x1]) (ok := (fun k_ => (a7 k_ ∨ w.heap.size ≤ k_) ∧ some k_ ≠ (.slice j8 d0.length j9 : Value).ownBlock ∧ k_ ≠ a1)) ?hr ?hp (fun _ hk => hk) ((show ∀ k_, E7.heap.size ≤ k_ → (fun k_ => (a7 k_ ∨ w.heap.size ≤ k_) ∧ some k_ ≠ (.slice j8 d0.length j9 : Value).ownBlock ∧ k_ ≠ a1) k_ from fun k_ hk => ⟨(.inr (Nat.le_trans (below_size (zW HB.out)) hk)), Kd.fresh' (Kd.R_lt (zR d2.out)) k_ hk, Kd.freshB (g := a1) (o := .cells #[.int .i64 a4, .int .i64 a5, .int .i64 a6, .slice b1 a3.length b2, .int .i64 a9, .bool b3] 169 (0, 0)) (zK a2.out) k_ hk⟩) _ (Nat.le_refl _)) (Below.refl _ _) (Nat.le_refl _) (by simp) ?_; (case hd => rfl); (case hg => rfl); (case hr => first | (go_simp; done) | (go_simp; rfl)); (case hp => exact (Reps.c5 (show Kd.FK k75 _ _ (⟨i6, (⟨i7, i8, i9, j2⟩ : S32)⟩ : S75) [.int .i64 i6, .int .i64 i7, .int .i64 i8, .int .i64 i9, .slice v7 j2.length v8] from (k75_mkF _ _ (⟨i6, (⟨i7, i8, i9, j2⟩ : S32)⟩ : S75) (Kd.V_reads' (Kd.V_mono (ok' := (fun k_ => (a7 k_ ∨ w.heap.size ≤ k_) ∧ some k_ ≠ (.slice j8 d0.length j9 : Value).ownBlock ∧ k_ ≠ a1)) (d1.out) (fun k_ hk => ⟨hk.1.1.1, ⟨hk.1.2, hk.1.1.2⟩⟩))).2.1 (Kd.V_F (Kd.V_mono (ok' := (fun k_ => (a7 k_ ∨ w.heap.size ≤ k_) ∧ some k_ ≠ (.slice j8 d0.length j9 : Value).ownBlock ∧ k_ ≠ a1)) (d1.out) (fun k_ hk => ⟨hk.1.1.1, ⟨hk.1.2, hk.1.1.2⟩⟩))))) (Reps.c5 (show Kd.FK k75 _ _ (⟨j3, (⟨j4, j5, j6, j7⟩ : S32)⟩ : S75) [.int .i64 j3, .int .i64 j4, .int .i64 j5, .int .i64 j6, .slice x0 j7.length x1] from (k75_mkF _ _ (⟨j3, (⟨j4, j5, j6, j7⟩ : S32)⟩ : S75) (Kd.R_reads' (Kd.R_mono (ok' := (fun k_ => (a7 k_ ∨ w.heap.size ≤ k_) ∧ some k_ ≠ (.slice j8 d0.length j9 : Value).ownBlock ∧ k_ ≠ a1)) (Kd.R_types (n2.out) a2.out (by decide)) (fun k_ hk => ⟨(.inr (hk.1.1.1)), ⟨hk.1.2, hk.2⟩⟩))).2.1 (Kd.R_F (Kd.R_mono (ok' := (fun k_ => (a7 k_ ∨ w.heap.size ≤ k_) ∧ some k_ ≠ (.slice j8 d0.length j9 : Value).ownBlock ∧ k_ ≠ a1)) (Kd.R_types (n2.out) a2.out (by decide)) (fun k_ hk => ⟨(.inr (hk.1.1.1)), ⟨hk.1.2, hk.2⟩⟩))))) (Reps.none _ _))))
              intro P3 P4 k0 hb hg_ hnew_
              clear hg_ hnew_
              (first | rw [← v5.out] at k0 | (simp only [Int.reduceToNat] at k0; rw [← v5.out] at k0))
              replace b0 := zA (Kd.V_elder' (zV b0.out) (Kd.N_base k0) hb)
              replace d1 := zA (Kd.V_elder' (zV d1.out) (Kd.N_base k0) hb)
              replace d2 := zr d2 hb
              have E8 := zA (Kd.N_lower k0 (below_size (zW HB.out)))
              replace a2 := zb a2 hb
              replace HB := zh HB hb
              clear n2
              clear hb k0
              refine hK.out _ _ zO fun hHeld => ?_
              clear hK K
              refine zn ?_
              refine zp 6 4 ?_
              refine done_ (by kernel_rfl) ?_
              try go_wp2
              go_ret
              exact ⟨_, zE, zNt (Kd.N_mono E8.out (fun _ hk => hk.1)), zW HB.out⟩
end Go.Proofs.YtpcdhoeoefoeoaaGreatDoor.PGC
