/- The walks of the functions that these laws reach, and what each comes to: printed by this session's program. -/
import Derived.Test.YtpcdhoeoefoeoaaGreatDoorZGAPGAx0
import Derived.Test.YtpcdhoeoefoeoaaGreatDoorZGAPGAx5
import Derived.Test.YtpcdhoeoefoeoaaGreatDoorZGASays
import Derived.Test.YtpcdhoeoefoeoaaGreatDoorZGARegN
import Derived.Test.YtpcdhoeoefoeoaaGreatDoorZGARegs
namespace Go.Proofs.YtpcdhoeoefoeoaaGreatDoor.PGA
open Go.RowKit YtpcdhoeoefoeoaaGreatDoorW.PrintWords YtpcdhoeoefoeoaaGreatDoorW.PrintLast YtpcdhoeoefoeoaaGreatDoorW.PrintMore
attribute [local go_sem high] Mine.str_gtr Mine.str_leq Mine.str_geq
attribute [local go_sem] max2_int min2_int max_two min_two max_three min_three max_four min_four   -- for this text's walks alone
set_option linter.unusedVariables false
set_option maxHeartbeats 8000000
set_option maxRecDepth 100000
set_option linter.unusedSimpArgs false
/-! ### spec_l4Make: function 154 -/
mutual
def spec_l4Make.j0 : Nat → ByteArray → Bool → Bool → Int → Int → Int → List ByteArray → Int → Bool → Option ((List (S75)))
 | 0, _, _, _, _, _, _, _, _, _ => none
 | k + 1, x0, x5, x40, x197000, x197001, x197002, x197003, x197004, x197005 => if x40 = true then (some (([(⟨3, (⟨x197000, x197001, x197002, x197003⟩ : S32)⟩ : S75)] : List (S75)))) else (if x0.toList = ([62] : List UInt8) then ((spec_l4Next.f x197000 x197001 x197002 x197003 x197004 x197005).bind fun bt259 => (some (([(⟨4, (⟨bt259.1, bt259.2.1, bt259.2.2.1, bt259.2.2.2⟩ : S32)⟩ : S75)] : List (S75))))) else (if x0.toList = ([60, 61] : List UInt8) then (spec_l4Make.j1 k x0 x5 x5 x197000 x197001 x197002 x197003 x197004 x197005) else (spec_l4Make.j1 k x0 x5 false x197000 x197001 x197002 x197003 x197004 x197005)))
def spec_l4Make.j1 : Nat → ByteArray → Bool → Bool → Int → Int → Int → List ByteArray → Int → Bool → Option ((List (S75)))
 | 0, _, _, _, _, _, _, _, _, _ => none
 | k + 1, x0, x5, x57, x197000, x197001, x197002, x197003, x197004, x197005 => if x57 = true then (some (([(⟨2, (⟨x197000, x197001, x197002, x197003⟩ : S32)⟩ : S75)] : List (S75)))) else (if x0.toList = ([60, 61] : List UInt8) then ((spec_l4Next.f x197000 x197001 x197002 x197003 x197004 x197005).bind fun bt271 => ((spec_l4Below.f bt271.1 bt271.2.1 bt271.2.2.1 bt271.2.2.2).bind fun bt277 => (some (([(⟨bt277.1, (⟨bt277.2.1, bt277.2.2.1, bt277.2.2.2.1, bt277.2.2.2.2⟩ : S32)⟩ : S75)] : List (S75)))))) else (if x5 = true then (some (([(⟨0, (⟨x197000, x197001, x197002, x197003⟩ : S32)⟩ : S75)] : List (S75)))) else ((spec_l4From.f x197000 x197001 x197002 x197003 x197004 x197005).bind fun bt290 => ((spec_l4Next.f x197000 x197001 x197002 x197003 x197004 x197005).bind fun bt297 => ((spec_l4Below.f bt297.1 bt297.2.1 bt297.2.2.1 bt297.2.2.2).bind fun bt303 => (some (([(⟨bt290.1, (⟨bt290.2.1, bt290.2.2.1, bt290.2.2.2.1, bt290.2.2.2.2⟩ : S32)⟩ : S75), (⟨bt303.1, (⟨bt303.2.1, bt303.2.2.1, bt303.2.2.2.1, bt303.2.2.2.2⟩ : S32)⟩ : S75)] : List (S75)))))))))
end
def spec_l4Make.f (k : Nat) (a0 : ByteArray) (a1_0 a1_1 a1_2 : Int) (l1_3 : List ByteArray) (a1_4 : Int) (a1_5 : Bool) : Option ((List (S75))) := if a0.toList = ([94] : List UInt8) then ((spec_l4From.f a1_0 a1_1 a1_2 l1_3 a1_4 a1_5).bind fun bt197 => ((spec_l4Caret.f k a1_0 a1_1 a1_2 l1_3 a1_4 a1_5).bind fun bt204 => ((spec_l4Below.f bt204.1 bt204.2.1 bt204.2.2.1 bt204.2.2.2).bind fun bt210 => (some (([(⟨bt197.1, (⟨bt197.2.1, bt197.2.2.1, bt197.2.2.2.1, bt197.2.2.2.2⟩ : S32)⟩ : S75), (⟨bt210.1, (⟨bt210.2.1, bt210.2.2.1, bt210.2.2.2.1, bt210.2.2.2.2⟩ : S32)⟩ : S75)] : List (S75))))))) else (if a0.toList = ([126] : List UInt8) then ((spec_l4From.f a1_0 a1_1 a1_2 l1_3 a1_4 a1_5).bind fun bt220 => ((spec_l4Tilde.f a1_0 a1_1 a1_2 l1_3 a1_4 a1_5).bind fun bt227 => ((spec_l4Below.f bt227.1 bt227.2.1 bt227.2.2.1 bt227.2.2.2).bind fun bt233 => (some (([(⟨bt220.1, (⟨bt220.2.1, bt220.2.2.1, bt220.2.2.2.1, bt220.2.2.2.2⟩ : S32)⟩ : S75), (⟨bt233.1, (⟨bt233.2.1, bt233.2.2.1, bt233.2.2.2.1, bt233.2.2.2.2⟩ : S32)⟩ : S75)] : List (S75))))))) else (if a0.toList = ([62, 61] : List UInt8) then ((spec_l4From.f a1_0 a1_1 a1_2 l1_3 a1_4 a1_5).bind fun bt243 => (some (([(⟨bt243.1, (⟨bt243.2.1, bt243.2.2.1, bt243.2.2.2.1, bt243.2.2.2.2⟩ : S32)⟩ : S75)] : List (S75))))) else (if a0.toList = ([60] : List UInt8) then (some (([(⟨1, (⟨a1_0, a1_1, a1_2, l1_3⟩ : S32)⟩ : S75)] : List (S75)))) else (if a0.toList = ([62] : List UInt8) then (spec_l4Make.j0 k a0 (a1_4 == 3) (a1_4 == 3) a1_0 a1_1 a1_2 l1_3 a1_4 a1_5) else (spec_l4Make.j0 k a0 (a1_4 == 3) false a1_0 a1_1 a1_2 l1_3 a1_4 a1_5)))))
theorem spec_l4Make.calls (k : Nat) (a0 : ByteArray) (a1_0 a1_1 a1_2 : Int) (P1_3_ : Nat → Prop) (A1_3 : Option Addr) (c1_3 : Nat) (l1_3 : List ByteArray) (a1_4 : Int) (a1_5 : Bool) (r : List (S75)) (w : World) (hs1_3 : Kd.V Kd.string 9 w w.heap.size (fun k_ => P1_3_ k_) (.slice A1_3 l1_3.length c1_3) l1_3) (h : spec_l4Make.f k a0 a1_0 a1_1 a1_2 l1_3 a1_4 a1_5 = some r) :
  Calls Tryz.prog 154 #[.string a0, .agg #[.int .i64 a1_0, .int .i64 a1_1, .int .i64 a1_2, .slice A1_3 l1_3.length c1_3, .int .i64 a1_4, .bool a1_5]] w fun e w' => ∃ v0_ : Value, e = .returned (v0_) ∧ Kd.N k75 75 w' w.heap.size (fun k_ => (P1_3_ k_ ∨ w.heap.size ≤ k_)) v0_ r ∧ Below w.heap.size w w' := by
 have hu169 := Tryz.underlying169
 have hu32 := Tryz.underlying32
 have hu75 := Tryz.underlying75
 have HO1_3 := zA (show Kd.V Kd.string 9 w w.heap.size (fun k_ => (P1_3_ k_ ∨ w.heap.size ≤ k_)) (.slice A1_3 l1_3.length c1_3) l1_3 from Kd.V_mono hs1_3 (fun k_ hk => .inl hk))
 have HB := zA (Below.refl w.heap.size w)
 unfold spec_l4Make.f at h
 have H := h
 clear h
 go_enter Tryz.func154, Tryz.ntmps154
 go_upto_if 9 with (first | ((with_reducible refine zd 3 ?_); refine ze 3 169 #[.int .i64 a1_0, .int .i64 a1_1, .int .i64 a1_2, .slice A1_3 l1_3.length c1_3, .int .i64 a1_4, .bool a1_5] ?_; intro gb196 hg w7 hbox hb; replace HO1_3 := zA (Kd.V_below (Kd.V_elderB (zV HO1_3.out) gb196 (Nat.le_of_eq hg.symm)) hb); have BK196 := zA (hbox); have GW196 := zi HB hg; have GE196 := zi HB hg; replace HB := zA (below_step (zB) hb); clear hb hbox hg; obtain ⟨hcz8_0, hcz8_1, hcz8_2, hcz8_3, hcz8_4, hcz8_5, hfz8_0, hfz8_1, hfz8_2, hfz8_3, hfz8_4, hfz8_5⟩ := ze6 BK196.out))
 (try simp only [Act.put, zT])
 replace H := zI1 H
 rcases H with ⟨c3, H⟩ | ⟨c3, H⟩
 ·have c3b0 := beq_iff_eq.mpr c3
  have c3b1 := bne_eq_false_iff_eq.mpr c3
  clear c3
  replace H := zj H
  obtain ⟨⟨t197, t198, t199, t200, t201⟩, A4, H⟩ := H
  try dsimp only at H
  replace H := zj H
  obtain ⟨⟨t204, t205, t206, t207⟩, A5, H⟩ := H
  try dsimp only at H
  replace H := zj H
  obtain ⟨⟨t210, t211, t212, t213, t214⟩, A6, H⟩ := H
  try dsimp only at H
  obtain ⟨y217, hy217⟩ : ∃ y_ : List (S75), y_ = (([(⟨t197, (⟨t198, t199, t200, t201⟩ : S32)⟩ : S75), (⟨t210, (⟨t211, t212, t213, t214⟩ : S32)⟩ : S75)] : List (S75))) := ⟨_, rfl⟩
  replace H : (some y217) = some r := zY hy217 H
  have Ny217 := Aside0.mk hy217
  clear hy217
  obtain rfl := Option.some.inj H
  (try simp only [c3b0, c3b1])
  try go_wp2
  replace HO1_3 := zA (Kd.V_drew HO1_3.out)
  replace BK196 := zA (blk_drew BK196.out)
  replace HB := zA (below_drew1 HB.out)
  refine start_ (n := 7) (S := fun w' => w'.cell? ⟨gb196, 0, none⟩ = some (.int .i64 a1_0) ∧ w'.cell? ⟨gb196, 1, none⟩ = some (.int .i64 a1_1) ∧ w'.cell? ⟨gb196, 2, none⟩ = some (.int .i64 a1_2) ∧ w'.cell? ⟨gb196, 3, none⟩ = some (.slice A1_3 l1_3.length c1_3) ∧ w'.cell? ⟨gb196, 4, none⟩ = some (.int .i64 a1_4) ∧ w'.cell? ⟨gb196, 5, none⟩ = some (.bool a1_5)) (ds := []) (Array.replicate 7 false) (by kernel_rfl) rfl rfl zO fun hHeld => ?_
  generalize w7.drew = w9 at HO1_3 BK196 HB hHeld ⊢
  refine zt 0 12 ?_
  refine zt 2 14 ?_
  refine zo 1 (some 13) fun K hK => ?_
  refine goes_ Tryz.func177 (by kernel_rfl) rfl #[.agg #[.int .i64 a1_0, .int .i64 a1_1, .int .i64 a1_2, .slice A1_3 l1_3.length c1_3, .int .i64 a1_4, .bool a1_5]] (by rfl) rfl rfl zM ?_
  with_reducible refine (spec_l4From.calls a1_0 a1_1 a1_2 (fun k_ => ((P1_3_ k_ ∨ w.heap.size ≤ k_) ∧ k_ ≠ gb196)) _ _ l1_3 a1_4 a1_5 t197 t198 t199 t200 t201 _ ?side1 A4.out).mono ?_
  (case side1 => exact HO1_3.out)
  rintro e w10 ⟨v202, rfl, ho0, hb⟩
  refine ⟨_, rfl, ?_⟩
  replace HO1_3 := zA (Kd.V_below (zV HO1_3.out) hb)
  have HO203 := zA (Kd.V_lower (Kd.V_mono (ok' := fun k_ => (P1_3_ k_ ∨ w.heap.size ≤ k_) ∧ k_ ≠ gb196) ho0 (fun k_ hk_ => ⟨Or.elim hk_ (fun hs_ => hs_.1) (fun hn_ => (.inr (Nat.le_trans (below_size (zW HB.out)) hn_))), Or.elim hk_ (fun hs_ => hs_.2) (fun hn_ => (Kd.freshB (g := gb196) (o := .cells #[.int .i64 a1_0, .int .i64 a1_1, .int .i64 a1_2, .slice A1_3 l1_3.length c1_3, .int .i64 a1_4, .bool a1_5] 169 (0, 0)) (zK BK196.out) k_ hn_))⟩)) (below_size (zW HB.out)))
  replace BK196 := zb BK196 hb
  replace HB := zh HB hb
  (try clear hb ho0)
  refine hK.out _ _ zO fun hHeld => ?_
  clear hK K
  refine zn ?_
  refine zo 3 (some 15) fun K hK => ?_
  refine goes_ Tryz.func179 (by kernel_rfl) rfl #[.agg #[.int .i64 a1_0, .int .i64 a1_1, .int .i64 a1_2, .slice A1_3 l1_3.length c1_3, .int .i64 a1_4, .bool a1_5]] (by rfl) rfl rfl zM ?_
  with_reducible refine (spec_l4Caret.calls k a1_0 a1_1 a1_2 _ _ l1_3 a1_4 a1_5 t204 t205 t206 t207 _ ?side1 ?side2 A5.out).mono ?_
  (case side1 => repeat (first | exact (Kd.V_reads' HO1_3.out).2.2 | (with_reducible refine Kd.C_alloc ?_ _) | (with_reducible refine Kd.C_drewN ?_ _) | (with_reducible refine Kd.C_drew ?_)))
  (case side2 => exact (Kd.V_reads' HO1_3.out).2.1)
  rintro e w11 ⟨v208, rfl, ho0, hb⟩
  refine ⟨_, rfl, ?_⟩
  replace HO1_3 := zA (Kd.V_elder' (zV HO1_3.out) (Kd.R_base ho0) hb)
  replace HO203 := zA (Kd.V_elder' (zV HO203.out) (Kd.R_base ho0) hb)
  have HO209 := zA (Kd.R_lower (Kd.R_newM (M := fun k_ => (w.heap.size ≤ k_)) ho0 (below_size (zW HB.out)) (fun k_ h_ => h_)) (below_size (zW HB.out)))
  replace BK196 := zb BK196 hb
  replace HB := zh HB hb
  (try clear hb ho0)
  obtain ⟨Ao12, co12, eo12⟩ := Kd.R_slice HO209.out
  (first | subst eo12 | (injection eo12 with f1_ f2_ f3_; have f4_ := f1_.symm; have f5_ := f3_.symm; clear f1_ f2_ f3_; subst f4_; subst f5_))
  refine hK.out _ _ zO fun hHeld => ?_
  clear hK K
  refine zn ?_
  refine zo 4 (some 16) fun K hK => ?_
  refine goes_ Tryz.func178 (by kernel_rfl) rfl #[.agg #[.int .i64 t204, .int .i64 t205, .int .i64 t206, .slice Ao12 t207.length co12]] (by rfl) rfl rfl zM ?_
  with_reducible refine (spec_l4Below.calls t204 t205 t206 _ _ t207 t210 t211 t212 t213 t214 _ ?side1 ?side2 A6.out).mono ?_
  (case side1 => repeat (first | exact (Kd.R_reads' HO209.out).2.2 | (with_reducible refine Kd.C_alloc ?_ _) | (with_reducible refine Kd.C_drewN ?_ _) | (with_reducible refine Kd.C_drew ?_)))
  (case side2 => exact (Kd.R_reads' HO209.out).2.1)
  rintro e w13 ⟨v215, rfl, ho0, hb⟩
  refine ⟨_, rfl, ?_⟩
  replace HO1_3 := zA (Kd.V_elder' (zV HO1_3.out) (Kd.R_base ho0) hb)
  replace HO203 := zA (Kd.V_elder' (zV HO203.out) (Kd.R_base ho0) hb)
  have HO216 := zA (Kd.R_lower (Kd.R_new' (Kd.R_newM (M := fun k_ => (w.heap.size ≤ k_)) ho0 (below_size (zW HB.out)) (fun k_ h_ => h_)) (Kd.R_lt (zR HO209.out))) (below_size (zW HB.out)))
  replace HO209 := zA (Kd.R_elder' (zR HO209.out) (Kd.R_base ho0) hb)
  replace BK196 := zb BK196 hb
  replace HB := zh HB hb
  (try clear hb ho0)
  obtain ⟨Ao14, co14, eo14⟩ := Kd.V_slice HO203.out
  (first | subst eo14 | (injection eo14 with f1_ f2_ f3_; have f4_ := f1_.symm; have f5_ := f3_.symm; clear f1_ f2_ f3_; subst f4_; subst f5_))
  obtain ⟨Ao15, co15, eo15⟩ := Kd.R_slice HO216.out
  (first | subst eo15 | (injection eo15 with f1_ f2_ f3_; have f4_ := f1_.symm; have f5_ := f3_.symm; clear f1_ f2_ f3_; subst f4_; subst f5_))
  refine hK.out _ _ zO fun hHeld => ?_
  clear hK K
  refine zn ?_
  refine zo 5 (some 17) fun K hK => ?_
  refine Kd.N_lit_step k75 _ 75 ?hg (N' := 17) ?hd (xs := ([(⟨t197, (⟨t198, t199, t200, t201⟩ : S32)⟩ : S75), (⟨t210, (⟨t211, t212, t213, t214⟩ : S32)⟩ : S75)] : List (S75))) (inner := [.int .i64 t197, .int .i64 t198, .int .i64 t199, .int .i64 t200, .slice Ao14 t201.length co14, .int .i64 t210, .int .i64 t211, .int .i64 t212, .int .i64 t213, .slice Ao15 t214.length co15]) (ok := (fun k_ => (P1_3_ k_ ∨ w.heap.size ≤ k_) ∧ some k_ ≠ (.slice Ao12 t207.length co12 : Value).ownBlock ∧ k_ ≠ gb196)) ?hr ?hp (fun _ hk => hk) ((show ∀ k_, w13.heap.size ≤ k_ → (fun k_ => (P1_3_ k_ ∨ w.heap.size ≤ k_) ∧ some k_ ≠ (.slice Ao12 t207.length co12 : Value).ownBlock ∧ k_ ≠ gb196) k_ from fun k_ hk => ⟨(.inr (Nat.le_trans (below_size (zW HB.out)) hk)), Kd.fresh' (Kd.R_lt (zR HO209.out)) k_ hk, Kd.freshB (g := gb196) (o := .cells #[.int .i64 a1_0, .int .i64 a1_1, .int .i64 a1_2, .slice A1_3 l1_3.length c1_3, .int .i64 a1_4, .bool a1_5] 169 (0, 0)) (zK BK196.out) k_ hk⟩) _ (Nat.le_refl _)) (Below.refl _ _) (Nat.le_refl _) (by simp) ?_; (case hd => rfl); (case hg => rfl); (case hr => first | (go_simp; done) | (go_simp; rfl)); (case hp => exact (Reps.c5 (show Kd.FK k75 _ _ (⟨t197, (⟨t198, t199, t200, t201⟩ : S32)⟩ : S75) [.int .i64 t197, .int .i64 t198, .int .i64 t199, .int .i64 t200, .slice Ao14 t201.length co14] from (k75_mkF _ _ (⟨t197, (⟨t198, t199, t200, t201⟩ : S32)⟩ : S75) (Kd.V_reads' (Kd.V_mono (ok' := (fun k_ => (P1_3_ k_ ∨ w.heap.size ≤ k_) ∧ some k_ ≠ (.slice Ao12 t207.length co12 : Value).ownBlock ∧ k_ ≠ gb196)) (HO203.out) (fun k_ hk => ⟨hk.1.1.1, ⟨hk.1.2, hk.1.1.2⟩⟩))).2.1 (Kd.V_F (Kd.V_mono (ok' := (fun k_ => (P1_3_ k_ ∨ w.heap.size ≤ k_) ∧ some k_ ≠ (.slice Ao12 t207.length co12 : Value).ownBlock ∧ k_ ≠ gb196)) (HO203.out) (fun k_ hk => ⟨hk.1.1.1, ⟨hk.1.2, hk.1.1.2⟩⟩))))) (Reps.c5 (show Kd.FK k75 _ _ (⟨t210, (⟨t211, t212, t213, t214⟩ : S32)⟩ : S75) [.int .i64 t210, .int .i64 t211, .int .i64 t212, .int .i64 t213, .slice Ao15 t214.length co15] from (k75_mkF _ _ (⟨t210, (⟨t211, t212, t213, t214⟩ : S32)⟩ : S75) (Kd.R_reads' (Kd.R_mono (ok' := (fun k_ => (P1_3_ k_ ∨ w.heap.size ≤ k_) ∧ some k_ ≠ (.slice Ao12 t207.length co12 : Value).ownBlock ∧ k_ ≠ gb196)) (Kd.R_types (HO216.out) BK196.out (by decide)) (fun k_ hk => ⟨(.inr (hk.1.1.1)), ⟨hk.1.2, hk.2⟩⟩))).2.1 (Kd.R_F (Kd.R_mono (ok' := (fun k_ => (P1_3_ k_ ∨ w.heap.size ≤ k_) ∧ some k_ ≠ (.slice Ao12 t207.length co12 : Value).ownBlock ∧ k_ ≠ gb196)) (Kd.R_types (HO216.out) BK196.out (by decide)) (fun k_ hk => ⟨(.inr (hk.1.1.1)), ⟨hk.1.2, hk.2⟩⟩))))) (Reps.none _ _))))
  intro v218 w16 ho17 hb hg_ hnew_
  clear hg_ hnew_
  (first | rw [← Ny217.out] at ho17 | (simp only [Int.reduceToNat] at ho17; rw [← Ny217.out] at ho17))
  replace HO1_3 := zA (Kd.V_elder' (zV HO1_3.out) (Kd.N_base ho17) hb)
  replace HO203 := zA (Kd.V_elder' (zV HO203.out) (Kd.N_base ho17) hb)
  replace HO209 := zr HO209 hb
  have HO219 := zA (Kd.N_lower ho17 (below_size (zW HB.out)))
  replace BK196 := zb BK196 hb
  replace HB := zh HB hb
  clear HO216
  clear hb ho17
  refine hK.out _ _ zO fun hHeld => ?_
  clear hK K
  refine zn ?_
  refine zp 6 4 ?_
  refine done_ (by kernel_rfl) ?_
  try go_wp2
  go_ret
  exact ⟨_, zE, zNt (Kd.N_mono HO219.out (fun _ hk => hk.1)), zW HB.out⟩
 ·have c3b0 := beq_eq_false_iff_ne.mpr c3
  have c3b1 := bne_iff_ne.mpr c3
  replace H := zI1 H
  rcases H with ⟨c18, H⟩ | ⟨c18, H⟩
  ·have c18b0 := beq_iff_eq.mpr c18
   have c18b1 := bne_eq_false_iff_eq.mpr c18
   clear c18
   replace H := zj H
   obtain ⟨⟨t220, t221, t222, t223, t224⟩, A19, H⟩ := H
   try dsimp only at H
   replace H := zj H
   obtain ⟨⟨t227, t228, t229, t230⟩, A20, H⟩ := H
   try dsimp only at H
   replace H := zj H
   obtain ⟨⟨t233, t234, t235, t236, t237⟩, A21, H⟩ := H
   try dsimp only at H
   obtain ⟨y240, hy240⟩ : ∃ y_ : List (S75), y_ = (([(⟨t220, (⟨t221, t222, t223, t224⟩ : S32)⟩ : S75), (⟨t233, (⟨t234, t235, t236, t237⟩ : S32)⟩ : S75)] : List (S75))) := ⟨_, rfl⟩
   replace H : (some y240) = some r := zY hy240 H
   have Ny240 := Aside0.mk hy240
   clear hy240
   obtain rfl := Option.some.inj H
   (try simp only [c3b0, c3b1, c18b0, c18b1])
   try go_wp2
   replace HO1_3 := zA (Kd.V_drew HO1_3.out)
   replace BK196 := zA (blk_drew BK196.out)
   replace HB := zA (below_drew1 HB.out)
   refine start_ (n := 7) (S := fun w' => w'.cell? ⟨gb196, 0, none⟩ = some (.int .i64 a1_0) ∧ w'.cell? ⟨gb196, 1, none⟩ = some (.int .i64 a1_1) ∧ w'.cell? ⟨gb196, 2, none⟩ = some (.int .i64 a1_2) ∧ w'.cell? ⟨gb196, 3, none⟩ = some (.slice A1_3 l1_3.length c1_3) ∧ w'.cell? ⟨gb196, 4, none⟩ = some (.int .i64 a1_4) ∧ w'.cell? ⟨gb196, 5, none⟩ = some (.bool a1_5)) (ds := []) (Array.replicate 7 false) (by kernel_rfl) rfl rfl zO fun hHeld => ?_
   generalize w7.drew = w24 at HO1_3 BK196 HB hHeld ⊢
   refine zt 0 21 ?_
   refine zt 2 23 ?_
   refine zo 1 (some 22) fun K hK => ?_
   refine goes_ Tryz.func177 (by kernel_rfl) rfl #[.agg #[.int .i64 a1_0, .int .i64 a1_1, .int .i64 a1_2, .slice A1_3 l1_3.length c1_3, .int .i64 a1_4, .bool a1_5]] (by rfl) rfl rfl zM ?_
   with_reducible refine (spec_l4From.calls a1_0 a1_1 a1_2 (fun k_ => ((P1_3_ k_ ∨ w.heap.size ≤ k_) ∧ k_ ≠ gb196)) _ _ l1_3 a1_4 a1_5 t220 t221 t222 t223 t224 _ ?side1 A19.out).mono ?_
   (case side1 => exact HO1_3.out)
   rintro e w25 ⟨v225, rfl, ho0, hb⟩
   refine ⟨_, rfl, ?_⟩
   replace HO1_3 := zA (Kd.V_below (zV HO1_3.out) hb)
   have HO226 := zA (Kd.V_lower (Kd.V_mono (ok' := fun k_ => (P1_3_ k_ ∨ w.heap.size ≤ k_) ∧ k_ ≠ gb196) ho0 (fun k_ hk_ => ⟨Or.elim hk_ (fun hs_ => hs_.1) (fun hn_ => (.inr (Nat.le_trans (below_size (zW HB.out)) hn_))), Or.elim hk_ (fun hs_ => hs_.2) (fun hn_ => (Kd.freshB (g := gb196) (o := .cells #[.int .i64 a1_0, .int .i64 a1_1, .int .i64 a1_2, .slice A1_3 l1_3.length c1_3, .int .i64 a1_4, .bool a1_5] 169 (0, 0)) (zK BK196.out) k_ hn_))⟩)) (below_size (zW HB.out)))
   replace BK196 := zb BK196 hb
   replace HB := zh HB hb
   (try clear hb ho0)
   refine hK.out _ _ zO fun hHeld => ?_
   clear hK K
   refine zn ?_
   refine zo 3 (some 24) fun K hK => ?_
   refine goes_ Tryz.func180 (by kernel_rfl) rfl #[.agg #[.int .i64 a1_0, .int .i64 a1_1, .int .i64 a1_2, .slice A1_3 l1_3.length c1_3, .int .i64 a1_4, .bool a1_5]] (by rfl) rfl rfl zM ?_
   with_reducible refine (spec_l4Tilde.calls a1_0 a1_1 a1_2 _ _ l1_3 a1_4 a1_5 t227 t228 t229 t230 _ ?side1 ?side2 A20.out).mono ?_
   (case side1 => repeat (first | exact (Kd.V_reads' HO1_3.out).2.2 | (with_reducible refine Kd.C_alloc ?_ _) | (with_reducible refine Kd.C_drewN ?_ _) | (with_reducible refine Kd.C_drew ?_)))
   (case side2 => exact (Kd.V_reads' HO1_3.out).2.1)
   rintro e w26 ⟨v231, rfl, ho0, hb⟩
   refine ⟨_, rfl, ?_⟩
   replace HO1_3 := zA (Kd.V_elder' (zV HO1_3.out) (Kd.R_base ho0) hb)
   replace HO226 := zA (Kd.V_elder' (zV HO226.out) (Kd.R_base ho0) hb)
   have HO232 := zA (Kd.R_lower (Kd.R_newM (M := fun k_ => (w.heap.size ≤ k_)) ho0 (below_size (zW HB.out)) (fun k_ h_ => h_)) (below_size (zW HB.out)))
   replace BK196 := zb BK196 hb
   replace HB := zh HB hb
   (try clear hb ho0)
   obtain ⟨Ao27, co27, eo27⟩ := Kd.R_slice HO232.out
   (first | subst eo27 | (injection eo27 with f1_ f2_ f3_; have f4_ := f1_.symm; have f5_ := f3_.symm; clear f1_ f2_ f3_; subst f4_; subst f5_))
   refine hK.out _ _ zO fun hHeld => ?_
   clear hK K
   refine zn ?_
   refine zo 4 (some 25) fun K hK => ?_
   refine goes_ Tryz.func178 (by kernel_rfl) rfl #[.agg #[.int .i64 t227, .int .i64 t228, .int .i64 t229, .slice Ao27 t230.length co27]] (by rfl) rfl rfl zM ?_
   with_reducible refine (spec_l4Below.calls t227 t228 t229 _ _ t230 t233 t234 t235 t236 t237 _ ?side1 ?side2 A21.out).mono ?_
   (case side1 => repeat (first | exact (Kd.R_reads' HO232.out).2.2 | (with_reducible refine Kd.C_alloc ?_ _) | (with_reducible refine Kd.C_drewN ?_ _) | (with_reducible refine Kd.C_drew ?_)))
   (case side2 => exact (Kd.R_reads' HO232.out).2.1)
   rintro e w28 ⟨v238, rfl, ho0, hb⟩
   refine ⟨_, rfl, ?_⟩
   replace HO1_3 := zA (Kd.V_elder' (zV HO1_3.out) (Kd.R_base ho0) hb)
   replace HO226 := zA (Kd.V_elder' (zV HO226.out) (Kd.R_base ho0) hb)
   have HO239 := zA (Kd.R_lower (Kd.R_new' (Kd.R_newM (M := fun k_ => (w.heap.size ≤ k_)) ho0 (below_size (zW HB.out)) (fun k_ h_ => h_)) (Kd.R_lt (zR HO232.out))) (below_size (zW HB.out)))
   replace HO232 := zA (Kd.R_elder' (zR HO232.out) (Kd.R_base ho0) hb)
   replace BK196 := zb BK196 hb
   replace HB := zh HB hb
   (try clear hb ho0)
   obtain ⟨Ao29, co29, eo29⟩ := Kd.V_slice HO226.out
   (first | subst eo29 | (injection eo29 with f1_ f2_ f3_; have f4_ := f1_.symm; have f5_ := f3_.symm; clear f1_ f2_ f3_; subst f4_; subst f5_))
   obtain ⟨Ao30, co30, eo30⟩ := Kd.R_slice HO239.out
   (first | subst eo30 | (injection eo30 with f1_ f2_ f3_; have f4_ := f1_.symm; have f5_ := f3_.symm; clear f1_ f2_ f3_; subst f4_; subst f5_))
   refine hK.out _ _ zO fun hHeld => ?_
   clear hK K
   refine zn ?_
   refine zo 5 (some 26) fun K hK => ?_
   refine Kd.N_lit_step k75 _ 75 ?hg (N' := 26) ?hd (xs := ([(⟨t220, (⟨t221, t222, t223, t224⟩ : S32)⟩ : S75), (⟨t233, (⟨t234, t235, t236, t237⟩ : S32)⟩ : S75)] : List (S75))) (inner := [.int .i64 t220, .int .i64 t221, .int .i64 t222, .int .i64 t223, .slice Ao29 t224.length co29, .int .i64 t233, .int .i64 t234, .int .i64 t235, .int .i64 t236, .slice Ao30 t237.length co30]) (ok := (fun k_ => (P1_3_ k_ ∨ w.heap.size ≤ k_) ∧ some k_ ≠ (.slice Ao27 t230.length co27 : Value).ownBlock ∧ k_ ≠ gb196)) ?hr ?hp (fun _ hk => hk) ((show ∀ k_, w28.heap.size ≤ k_ → (fun k_ => (P1_3_ k_ ∨ w.heap.size ≤ k_) ∧ some k_ ≠ (.slice Ao27 t230.length co27 : Value).ownBlock ∧ k_ ≠ gb196) k_ from fun k_ hk => ⟨(.inr (Nat.le_trans (below_size (zW HB.out)) hk)), Kd.fresh' (Kd.R_lt (zR HO232.out)) k_ hk, Kd.freshB (g := gb196) (o := .cells #[.int .i64 a1_0, .int .i64 a1_1, .int .i64 a1_2, .slice A1_3 l1_3.length c1_3, .int .i64 a1_4, .bool a1_5] 169 (0, 0)) (zK BK196.out) k_ hk⟩) _ (Nat.le_refl _)) (Below.refl _ _) (Nat.le_refl _) (by simp) ?_; (case hd => rfl); (case hg => rfl); (case hr => first | (go_simp; done) | (go_simp; rfl)); (case hp => exact (Reps.c5 (show Kd.FK k75 _ _ (⟨t220, (⟨t221, t222, t223, t224⟩ : S32)⟩ : S75) [.int .i64 t220, .int .i64 t221, .int .i64 t222, .int .i64 t223, .slice Ao29 t224.length co29] from (k75_mkF _ _ (⟨t220, (⟨t221, t222, t223, t224⟩ : S32)⟩ : S75) (Kd.V_reads' (Kd.V_mono (ok' := (fun k_ => (P1_3_ k_ ∨ w.heap.size ≤ k_) ∧ some k_ ≠ (.slice Ao27 t230.length co27 : Value).ownBlock ∧ k_ ≠ gb196)) (HO226.out) (fun k_ hk => ⟨hk.1.1.1, ⟨hk.1.2, hk.1.1.2⟩⟩))).2.1 (Kd.V_F (Kd.V_mono (ok' := (fun k_ => (P1_3_ k_ ∨ w.heap.size ≤ k_) ∧ some k_ ≠ (.slice Ao27 t230.length co27 : Value).ownBlock ∧ k_ ≠ gb196)) (HO226.out) (fun k_ hk => ⟨hk.1.1.1, ⟨hk.1.2, hk.1.1.2⟩⟩))))) (Reps.c5 (show Kd.FK k75 _ _ (⟨t233, (⟨t234, t235, t236, t237⟩ : S32)⟩ : S75) [.int .i64 t233, .int .i64 t234, .int .i64 t235, .int .i64 t236, .slice Ao30 t237.length co30] from (k75_mkF _ _ (⟨t233, (⟨t234, t235, t236, t237⟩ : S32)⟩ : S75) (Kd.R_reads' (Kd.R_mono (ok' := (fun k_ => (P1_3_ k_ ∨ w.heap.size ≤ k_) ∧ some k_ ≠ (.slice Ao27 t230.length co27 : Value).ownBlock ∧ k_ ≠ gb196)) (Kd.R_types (HO239.out) BK196.out (by decide)) (fun k_ hk => ⟨(.inr (hk.1.1.1)), ⟨hk.1.2, hk.2⟩⟩))).2.1 (Kd.R_F (Kd.R_mono (ok' := (fun k_ => (P1_3_ k_ ∨ w.heap.size ≤ k_) ∧ some k_ ≠ (.slice Ao27 t230.length co27 : Value).ownBlock ∧ k_ ≠ gb196)) (Kd.R_types (HO239.out) BK196.out (by decide)) (fun k_ hk => ⟨(.inr (hk.1.1.1)), ⟨hk.1.2, hk.2⟩⟩))))) (Reps.none _ _))))
   intro v241 w31 ho32 hb hg_ hnew_
   clear hg_ hnew_
   (first | rw [← Ny240.out] at ho32 | (simp only [Int.reduceToNat] at ho32; rw [← Ny240.out] at ho32))
   replace HO1_3 := zA (Kd.V_elder' (zV HO1_3.out) (Kd.N_base ho32) hb)
   replace HO226 := zA (Kd.V_elder' (zV HO226.out) (Kd.N_base ho32) hb)
   replace HO232 := zr HO232 hb
   have HO242 := zA (Kd.N_lower ho32 (below_size (zW HB.out)))
   replace BK196 := zb BK196 hb
   replace HB := zh HB hb
   clear HO239
   clear hb ho32
   refine hK.out _ _ zO fun hHeld => ?_
   clear hK K
   refine zn ?_
   refine zp 6 4 ?_
   refine done_ (by kernel_rfl) ?_
   try go_wp2
   go_ret
   exact ⟨_, zE, zNt (Kd.N_mono HO242.out (fun _ hk => hk.1)), zW HB.out⟩
  ·have c18b0 := beq_eq_false_iff_ne.mpr c18
   have c18b1 := bne_iff_ne.mpr c18
   replace H := zI1 H
   rcases H with ⟨c33, H⟩ | ⟨c33, H⟩
   ·have c33b0 := beq_iff_eq.mpr c33
    have c33b1 := bne_eq_false_iff_eq.mpr c33
    clear c33
    replace H := zj H
    obtain ⟨⟨t243, t244, t245, t246, t247⟩, A34, H⟩ := H
    try dsimp only at H
    obtain ⟨y250, hy250⟩ : ∃ y_ : List (S75), y_ = (([(⟨t243, (⟨t244, t245, t246, t247⟩ : S32)⟩ : S75)] : List (S75))) := ⟨_, rfl⟩
    replace H : (some y250) = some r := zY hy250 H
    have Ny250 := Aside0.mk hy250
    clear hy250
    obtain rfl := Option.some.inj H
    (try simp only [c3b0, c3b1, c18b0, c18b1, c33b0, c33b1])
    go_wp2_with (first | ((with_reducible refine zq 177 ?_); refine zg (some 31) Tryz.func177 #[.agg #[.int .i64 a1_0, .int .i64 a1_1, .int .i64 a1_2, .slice A1_3 l1_3.length c1_3, .int .i64 a1_4, .bool a1_5]] ?_; (with_reducible refine (spec_l4From.calls a1_0 a1_1 a1_2 (fun k_ => ((P1_3_ k_ ∨ w.heap.size ≤ k_) ∧ k_ ≠ gb196)) _ _ l1_3 a1_4 a1_5 t243 t244 t245 t246 t247 _ ?side1 A34.out).mono ?_); (case side1 => exact HO1_3.out); rintro e w37 ⟨v248, rfl, ho0, hb⟩; refine ⟨_, rfl, ?_⟩; replace HO1_3 := zA (Kd.V_below (zV HO1_3.out) hb); have HO249 := zA (Kd.V_lower (Kd.V_mono (ok' := fun k_ => (P1_3_ k_ ∨ w.heap.size ≤ k_) ∧ k_ ≠ gb196) ho0 (fun k_ hk_ => ⟨Or.elim hk_ (fun hs_ => hs_.1) (fun hn_ => (.inr (Nat.le_trans (below_size (zW HB.out)) hn_))), Or.elim hk_ (fun hs_ => hs_.2) (fun hn_ => (Kd.freshB (g := gb196) (o := .cells #[.int .i64 a1_0, .int .i64 a1_1, .int .i64 a1_2, .slice A1_3 l1_3.length c1_3, .int .i64 a1_4, .bool a1_5] 169 (0, 0)) (zK BK196.out) k_ hn_))⟩)) (below_size (zW HB.out))); replace BK196 := zb BK196 hb; replace HB := zh HB hb; (try clear hb ho0); obtain ⟨Ao38, co38, eo38⟩ := Kd.V_slice HO249.out; subst eo38) | ((with_reducible refine gate_dst (N := 32) rfl ?_); refine Kd.N_lit k75 _ 75 ?hg (N' := 32) ?hd (xs := ([(⟨t243, (⟨t244, t245, t246, t247⟩ : S32)⟩ : S75)] : List (S75))) (inner := [.int .i64 t243, .int .i64 t244, .int .i64 t245, .int .i64 t246, .slice Ao38 t247.length co38]) (ok := (fun k_ => (P1_3_ k_ ∨ w.heap.size ≤ k_) ∧ k_ ≠ gb196)) ?hr ?hp (fun _ hk => hk) ((show ∀ k_, w37.heap.size ≤ k_ → (fun k_ => (P1_3_ k_ ∨ w.heap.size ≤ k_) ∧ k_ ≠ gb196) k_ from fun k_ hk => ⟨(.inr (Nat.le_trans (below_size (zW HB.out)) hk)), Kd.freshB (g := gb196) (o := .cells #[.int .i64 a1_0, .int .i64 a1_1, .int .i64 a1_2, .slice A1_3 l1_3.length c1_3, .int .i64 a1_4, .bool a1_5] 169 (0, 0)) (zK BK196.out) k_ hk⟩) _ (Nat.le_refl _)) (Below.refl _ _) (Nat.le_refl _) (by simp) ?_; (case hd => rfl); (case hg => rfl); (case hr => first | (go_simp; done) | (go_simp; rfl)); (case hp => exact (Reps.c5 (show Kd.FK k75 _ _ (⟨t243, (⟨t244, t245, t246, t247⟩ : S32)⟩ : S75) [.int .i64 t243, .int .i64 t244, .int .i64 t245, .int .i64 t246, .slice Ao38 t247.length co38] from (k75_mkF _ _ (⟨t243, (⟨t244, t245, t246, t247⟩ : S32)⟩ : S75) (Kd.V_reads' (Kd.V_mono (ok' := (fun k_ => (P1_3_ k_ ∨ w.heap.size ≤ k_) ∧ k_ ≠ gb196)) (HO249.out) (fun k_ hk => ⟨hk.1, hk.2⟩))).2.1 (Kd.V_F (Kd.V_mono (ok' := (fun k_ => (P1_3_ k_ ∨ w.heap.size ≤ k_) ∧ k_ ≠ gb196)) (HO249.out) (fun k_ hk => ⟨hk.1, hk.2⟩))))) (Reps.none _ _))); intro v251 w39 ho40 hb hg_ hnew_; clear hg_ hnew_; (first | rw [← Ny250.out] at ho40 | (simp only [Int.reduceToNat] at ho40; rw [← Ny250.out] at ho40)); replace HO1_3 := zA (Kd.V_elder' (zV HO1_3.out) (Kd.N_base ho40) hb); replace HO249 := zA (Kd.V_elder' (zV HO249.out) (Kd.N_base ho40) hb); have HO252 := zA (Kd.N_lower ho40 (below_size (zW HB.out))); replace BK196 := zb BK196 hb; replace HB := zh HB hb; clear hb ho40))
    go_ret
    exact ⟨_, zE, zNt (Kd.N_mono HO252.out (fun _ hk => hk.1)), zW HB.out⟩
   ·have c33b0 := beq_eq_false_iff_ne.mpr c33
    have c33b1 := bne_iff_ne.mpr c33
    replace H := zI1 H
    rcases H with ⟨c41, H⟩ | ⟨c41, H⟩
    ·have c41b0 := beq_iff_eq.mpr c41
     have c41b1 := bne_eq_false_iff_eq.mpr c41
     clear c41
     obtain ⟨y253, hy253⟩ : ∃ y_ : List (S75), y_ = (([(⟨1, (⟨a1_0, a1_1, a1_2, l1_3⟩ : S32)⟩ : S75)] : List (S75))) := ⟨_, rfl⟩
     replace H : (some y253) = some r := zY hy253 H
     have Ny253 := Aside0.mk hy253
     clear hy253
     obtain rfl := Option.some.inj H
     (try simp only [c3b0, c3b1, c18b0, c18b1, c33b0, c33b1, c41b0, c41b1])
     go_wp2_with (first | ((with_reducible refine gate_dst (N := 39) rfl ?_); refine Kd.N_lit k75 _ 75 ?hg (N' := 39) ?hd (xs := ([(⟨1, (⟨a1_0, a1_1, a1_2, l1_3⟩ : S32)⟩ : S75)] : List (S75))) (inner := [.int .i64 1, .int .i64 a1_0, .int .i64 a1_1, .int .i64 a1_2, .slice A1_3 l1_3.length c1_3]) (ok := (fun k_ => (P1_3_ k_ ∨ w.heap.size ≤ k_) ∧ k_ ≠ gb196)) ?hr ?hp (fun _ hk => hk) ((show ∀ k_, w7.heap.size ≤ k_ → (fun k_ => (P1_3_ k_ ∨ w.heap.size ≤ k_) ∧ k_ ≠ gb196) k_ from fun k_ hk => ⟨(.inr (Nat.le_trans (below_size (zW HB.out)) hk)), Kd.freshB (g := gb196) (o := .cells #[.int .i64 a1_0, .int .i64 a1_1, .int .i64 a1_2, .slice A1_3 l1_3.length c1_3, .int .i64 a1_4, .bool a1_5] 169 (0, 0)) (zK BK196.out) k_ hk⟩) _ (Nat.le_refl _)) (Below.refl _ _) (Nat.le_refl _) (by simp) ?_; (case hd => rfl); (case hg => rfl); (case hr => first | (go_simp; done) | (go_simp; rfl)); (case hp => exact (Reps.c5 (show Kd.FK k75 _ _ (⟨1, (⟨a1_0, a1_1, a1_2, l1_3⟩ : S32)⟩ : S75) [.int .i64 1, .int .i64 a1_0, .int .i64 a1_1, .int .i64 a1_2, .slice A1_3 l1_3.length c1_3] from (k75_mkF _ _ (⟨1, (⟨a1_0, a1_1, a1_2, l1_3⟩ : S32)⟩ : S75) (Kd.V_reads' (Kd.V_mono (ok' := (fun k_ => (P1_3_ k_ ∨ w.heap.size ≤ k_) ∧ k_ ≠ gb196)) (HO1_3.out) (fun k_ hk => ⟨hk.1, hk.2⟩))).2.1 (Kd.V_F (Kd.V_mono (ok' := (fun k_ => (P1_3_ k_ ∨ w.heap.size ≤ k_) ∧ k_ ≠ gb196)) (HO1_3.out) (fun k_ hk => ⟨hk.1, hk.2⟩))))) (Reps.none _ _))); intro v254 w44 ho45 hb hg_ hnew_; clear hg_ hnew_; (first | rw [← Ny253.out] at ho45 | (simp only [Int.reduceToNat] at ho45; rw [← Ny253.out] at ho45)); replace HO1_3 := zA (Kd.V_elder' (zV HO1_3.out) (Kd.N_base ho45) hb); have HO255 := zA (Kd.N_lower ho45 (below_size (zW HB.out))); replace BK196 := zb BK196 hb; replace HB := zh HB hb; clear hb ho45))
     go_ret
     exact ⟨_, zE, zNt (Kd.N_mono HO255.out (fun _ hk => hk.1)), zW HB.out⟩
    ·have c41b0 := beq_eq_false_iff_ne.mpr c41
     have c41b1 := bne_iff_ne.mpr c41
     have HC46 := Aside0.mk H
     clear H
     (try simp only [c3b0, c3b1, c18b0, c18b1, c33b0, c33b1, c41b0, c41b1])
     go_upto_region 10 with fail
     (try simp only [Act.put, zT])
     go_cut [40] (fun v40 wc => ∃ (kq : Nat) (x40_45 : Bool), v40 = .bool x40_45 ∧ Aside0 (spec_l4Make.j0 kq a0 (a1_4 == 3) x40_45 a1_0 a1_1 a1_2 l1_3 a1_4 a1_5 = some r) ∧ Aside0 (kq ≤ k) ∧ Aside0 (Kd.V Kd.string 9 wc w.heap.size (fun k_ => (P1_3_ k_ ∨ w.heap.size ≤ k_) ∧ k_ ≠ gb196) (.slice A1_3 l1_3.length c1_3) l1_3) ∧ Aside0 (wc.heap[gb196]? = some (.cells #[.int .i64 a1_0, .int .i64 a1_1, .int .i64 a1_2, (.slice A1_3 l1_3.length c1_3), .int .i64 a1_4, .bool a1_5] 169 (0, 0))) ∧ Aside0 (Below w.heap.size w wc))
     case first =>
      have H := HC46.out
      clear HC46
      replace H := zI1 H
      rcases H with ⟨c49, H⟩ | ⟨c49, H⟩
      ·have c49b0 := beq_iff_eq.mpr c49
       have c49b1 := bne_eq_false_iff_eq.mpr c49
       clear c49
       (first | rw [c49b0] | (simp only [i64_w, i32_w]; rw [c49b0]) | skip)
       have H' := Aside0.mk H
       clear H
       go_wp2
       go_meet
       case rel => exact ⟨_, ((a1_4 == 3)), zS, (by first | exact H' | (subst_vars; exact H')), ⟨by first | omega | exact Nat.le_refl _⟩, ⟨zV HO1_3.out⟩, ⟨zK BK196.out⟩, ⟨zW HB.out⟩⟩
      ·have c49b0 := beq_eq_false_iff_ne.mpr c49
       have c49b1 := bne_iff_ne.mpr c49
       (first | rw [c49b0] | (simp only [i64_w, i32_w]; rw [c49b0]) | skip)
       have H' := Aside0.mk H
       clear H
       go_wp2
       go_meet
       case rel => exact ⟨_, (false), zS, (by first | exact H' | (subst_vars; exact H')), ⟨by first | omega | exact Nat.le_refl _⟩, ⟨zV HO1_3.out⟩, ⟨zK BK196.out⟩, ⟨zW HB.out⟩⟩
     case rest =>
      clear HC46
      try clear c1
      try clear p2
      try clear c3
      try clear c3b0
      try clear c3b1
      try clear c4
      try clear c5
      try clear c15
      try clear c17
      try clear c18
      try clear c18b0
      try clear c18b1
      try clear c33
      try clear c33b0
      try clear c33b1
      try clear c41
      try clear c41b0
      try clear c41b1
      try clear c49
      try clear c49b0
      try clear c49b1
      try clear hcz23_0 hcz23_1 hcz23_2 hcz23_3 hcz23_4 hcz23_5 hfz23_0 hfz23_1 hfz23_2 hfz23_3 hfz23_4 hfz23_5
      try clear hcz36_0 hcz36_1 hcz36_2 hcz36_3 hcz36_4 hcz36_5 hfz36_0 hfz36_1 hfz36_2 hfz36_3 hfz36_4 hfz36_5
      try clear hcz43_0 hcz43_1 hcz43_2 hcz43_3 hcz43_4 hcz43_5 hfz43_0 hfz43_1 hfz43_2 hfz43_3 hfz43_4 hfz43_5
      try clear hcz8_0 hcz8_1 hcz8_2 hcz8_3 hcz8_4 hcz8_5 hfz8_0 hfz8_1 hfz8_2 hfz8_3 hfz8_4 hfz8_5
      try clear hcz8_0 hcz8_1 hcz8_2 hcz8_3 hcz8_4 hcz8_5 hfz8_0 hfz8_1 hfz8_2 hfz8_3 hfz8_4 hfz8_5
      obtain ⟨kq, x40_45, rfl, HA, HJ45, HO_197003, BK196, HB⟩ := hcut
      cases kq with
      | zero => exact absurd HA.out (by simp [spec_l4Make.j0])
      | succ kj45 =>
       have H := HA.out
       clear HA
       simp only [spec_l4Make.j0] at H
       replace H := zB0 H
       rcases H with ⟨rfl, H⟩ | ⟨rfl, H⟩
       ·obtain ⟨y256, hy256⟩ : ∃ y_ : List (S75), y_ = (([(⟨3, (⟨a1_0, a1_1, a1_2, l1_3⟩ : S32)⟩ : S75)] : List (S75))) := ⟨_, rfl⟩
        replace H : (some y256) = some r := zY hy256 H
        have Ny256 := Aside0.mk hy256
        clear hy256
        obtain rfl := Option.some.inj H
        obtain ⟨hcz51_0, hcz51_1, hcz51_2, hcz51_3, hcz51_4, hcz51_5, hfz51_0, hfz51_1, hfz51_2, hfz51_3, hfz51_4, hfz51_5⟩ := ze6 BK196.out
        go_wp2_with (first | ((with_reducible refine gate_dst (N := 49) rfl ?_); refine Kd.N_lit k75 _ 75 ?hg (N' := 49) ?hd (xs := ([(⟨3, (⟨a1_0, a1_1, a1_2, l1_3⟩ : S32)⟩ : S75)] : List (S75))) (inner := [.int .i64 3, .int .i64 a1_0, .int .i64 a1_1, .int .i64 a1_2, .slice A1_3 l1_3.length c1_3]) (ok := (fun k_ => (P1_3_ k_ ∨ w.heap.size ≤ k_) ∧ k_ ≠ gb196)) ?hr ?hp (fun _ hk => hk) ((show ∀ k_, wc.heap.size ≤ k_ → (fun k_ => (P1_3_ k_ ∨ w.heap.size ≤ k_) ∧ k_ ≠ gb196) k_ from fun k_ hk => ⟨(.inr (Nat.le_trans (below_size (zW HB.out)) hk)), Kd.freshB (g := gb196) (o := .cells #[.int .i64 a1_0, .int .i64 a1_1, .int .i64 a1_2, .slice A1_3 l1_3.length c1_3, .int .i64 a1_4, .bool a1_5] 169 (0, 0)) (zK BK196.out) k_ hk⟩) _ (Nat.le_refl _)) (Below.refl _ _) (Nat.le_refl _) (by simp) ?_; (case hd => rfl); (case hg => rfl); (case hr => first | (go_simp; done) | (go_simp; rfl)); (case hp => exact (Reps.c5 (show Kd.FK k75 _ _ (⟨3, (⟨a1_0, a1_1, a1_2, l1_3⟩ : S32)⟩ : S75) [.int .i64 3, .int .i64 a1_0, .int .i64 a1_1, .int .i64 a1_2, .slice A1_3 l1_3.length c1_3] from (k75_mkF _ _ (⟨3, (⟨a1_0, a1_1, a1_2, l1_3⟩ : S32)⟩ : S75) (Kd.V_reads' (Kd.V_mono (ok' := (fun k_ => (P1_3_ k_ ∨ w.heap.size ≤ k_) ∧ k_ ≠ gb196)) (HO_197003.out) (fun k_ hk => ⟨hk.1, hk.2⟩))).2.1 (Kd.V_F (Kd.V_mono (ok' := (fun k_ => (P1_3_ k_ ∨ w.heap.size ≤ k_) ∧ k_ ≠ gb196)) (HO_197003.out) (fun k_ hk => ⟨hk.1, hk.2⟩))))) (Reps.none _ _))); intro v257 w52 ho53 hb hg_ hnew_; clear hg_ hnew_; (first | rw [← Ny256.out] at ho53 | (simp only [Int.reduceToNat] at ho53; rw [← Ny256.out] at ho53)); replace HO_197003 := zA (Kd.V_elder' (zV HO_197003.out) (Kd.N_base ho53) hb); have HO258 := zA (Kd.N_lower ho53 (below_size (zW HB.out))); replace BK196 := zb BK196 hb; replace HB := zh HB hb; clear hb ho53))
        go_ret
        exact ⟨_, zE, zNt (Kd.N_mono HO258.out (fun _ hk => hk.1)), zW HB.out⟩
       ·replace H := zI1 H
        rcases H with ⟨c54, H⟩ | ⟨c54, H⟩
        ·have c54b0 := beq_iff_eq.mpr c54
         have c54b1 := bne_eq_false_iff_eq.mpr c54
         clear c54
         replace H := zj H
         obtain ⟨⟨t259, t260, t261, t262⟩, A55, H⟩ := H
         try dsimp only at H
         obtain ⟨y265, hy265⟩ : ∃ y_ : List (S75), y_ = (([(⟨4, (⟨t259, t260, t261, t262⟩ : S32)⟩ : S75)] : List (S75))) := ⟨_, rfl⟩
         replace H : (some y265) = some r := zY hy265 H
         have Ny265 := Aside0.mk hy265
         clear hy265
         obtain rfl := Option.some.inj H
         obtain ⟨hcz56_0, hcz56_1, hcz56_2, hcz56_3, hcz56_4, hcz56_5, hfz56_0, hfz56_1, hfz56_2, hfz56_3, hfz56_4, hfz56_5⟩ := ze6 BK196.out
         go_wp2_with (first | ((with_reducible refine zq 181 ?_); refine zg (some 54) Tryz.func181 #[.agg #[.int .i64 a1_0, .int .i64 a1_1, .int .i64 a1_2, .slice A1_3 l1_3.length c1_3, .int .i64 a1_4, .bool a1_5]] ?_; (with_reducible refine (spec_l4Next.calls a1_0 a1_1 a1_2 _ _ l1_3 a1_4 a1_5 t259 t260 t261 t262 _ ?side1 ?side2 A55.out).mono ?_); (case side1 => repeat (first | exact (Kd.V_reads' HO_197003.out).2.2 | (with_reducible refine Kd.C_alloc ?_ _) | (with_reducible refine Kd.C_drewN ?_ _) | (with_reducible refine Kd.C_drew ?_))); (case side2 => exact (Kd.V_reads' HO_197003.out).2.1); rintro e w57 ⟨v263, rfl, ho0, hb⟩; refine ⟨_, rfl, ?_⟩; replace HO_197003 := zA (Kd.V_elder' (zV HO_197003.out) (Kd.R_base ho0) hb); have HO264 := zA (Kd.R_lower (Kd.R_newM (M := fun k_ => (w.heap.size ≤ k_)) ho0 (below_size (zW HB.out)) (fun k_ h_ => h_)) (below_size (zW HB.out))); replace BK196 := zb BK196 hb; replace HB := zh HB hb; (try clear hb ho0); obtain ⟨Ao58, co58, eo58⟩ := Kd.R_slice HO264.out; subst eo58) | ((with_reducible refine gate_dst (N := 56) rfl ?_); refine Kd.N_lit k75 _ 75 ?hg (N' := 56) ?hd (xs := ([(⟨4, (⟨t259, t260, t261, t262⟩ : S32)⟩ : S75)] : List (S75))) (inner := [.int .i64 4, .int .i64 t259, .int .i64 t260, .int .i64 t261, .slice Ao58 t262.length co58]) (ok := (fun k_ => (P1_3_ k_ ∨ w.heap.size ≤ k_) ∧ k_ ≠ gb196)) ?hr ?hp (fun _ hk => hk) ((show ∀ k_, w57.heap.size ≤ k_ → (fun k_ => (P1_3_ k_ ∨ w.heap.size ≤ k_) ∧ k_ ≠ gb196) k_ from fun k_ hk => ⟨(.inr (Nat.le_trans (below_size (zW HB.out)) hk)), Kd.freshB (g := gb196) (o := .cells #[.int .i64 a1_0, .int .i64 a1_1, .int .i64 a1_2, .slice A1_3 l1_3.length c1_3, .int .i64 a1_4, .bool a1_5] 169 (0, 0)) (zK BK196.out) k_ hk⟩) _ (Nat.le_refl _)) (Below.refl _ _) (Nat.le_refl _) (by simp) ?_; (case hd => rfl); (case hg => rfl); (case hr => first | (go_simp; done) | (go_simp; rfl)); (case hp => exact (Reps.c5 (show Kd.FK k75 _ _ (⟨4, (⟨t259, t260, t261, t262⟩ : S32)⟩ : S75) [.int .i64 4, .int .i64 t259, .int .i64 t260, .int .i64 t261, .slice Ao58 t262.length co58] from (k75_mkF _ _ (⟨4, (⟨t259, t260, t261, t262⟩ : S32)⟩ : S75) (Kd.R_reads' (Kd.R_mono (ok' := (fun k_ => (P1_3_ k_ ∨ w.heap.size ≤ k_) ∧ k_ ≠ gb196)) (Kd.R_types (HO264.out) BK196.out (by decide)) (fun k_ hk => ⟨(.inr (hk.1.1)), hk.2⟩))).2.1 (Kd.R_F (Kd.R_mono (ok' := (fun k_ => (P1_3_ k_ ∨ w.heap.size ≤ k_) ∧ k_ ≠ gb196)) (Kd.R_types (HO264.out) BK196.out (by decide)) (fun k_ hk => ⟨(.inr (hk.1.1)), hk.2⟩))))) (Reps.none _ _))); intro v266 w59 ho60 hb hg_ hnew_; clear hg_ hnew_; (first | rw [← Ny265.out] at ho60 | (simp only [Int.reduceToNat] at ho60; rw [← Ny265.out] at ho60)); replace HO_197003 := zA (Kd.V_elder' (zV HO_197003.out) (Kd.N_base ho60) hb); have HO267 := zA (Kd.N_lower ho60 (below_size (zW HB.out))); replace BK196 := zb BK196 hb; replace HB := zh HB hb; clear HO264; clear hb ho60))
         go_ret
         exact ⟨_, zE, zNt (Kd.N_mono HO267.out (fun _ hk => hk.1)), zW HB.out⟩
        ·have c54b0 := beq_eq_false_iff_ne.mpr c54
         have c54b1 := bne_iff_ne.mpr c54
         have HC61 := Aside0.mk H
         clear H
         go_upto_region 14 with (fail)
         go_cut [57] (fun v57 wc => ∃ (kq : Nat) (x57_60 : Bool), v57 = .bool x57_60 ∧ Aside0 (spec_l4Make.j1 kq a0 (a1_4 == 3) x57_60 a1_0 a1_1 a1_2 l1_3 a1_4 a1_5 = some r) ∧ Aside0 (kq ≤ kj45) ∧ Aside0 (Kd.V Kd.string 9 wc w.heap.size (fun k_ => (P1_3_ k_ ∨ w.heap.size ≤ k_) ∧ k_ ≠ gb196) (.slice A1_3 l1_3.length c1_3) l1_3) ∧ Aside0 (wc.heap[gb196]? = some (.cells #[.int .i64 a1_0, .int .i64 a1_1, .int .i64 a1_2, (.slice A1_3 l1_3.length c1_3), .int .i64 a1_4, .bool a1_5] 169 (0, 0))) ∧ Aside0 (Below w.heap.size w wc))
         case first =>
          have H := HC61.out
          clear HC61
          replace H := zI1 H
          rcases H with ⟨c62, H⟩ | ⟨c62, H⟩
          ·have c62b0 := beq_iff_eq.mpr c62
           have c62b1 := bne_eq_false_iff_eq.mpr c62
           clear c62
           (first | rw [c62b0] | (simp only [i64_w, i32_w]; rw [c62b0]) | skip)
           have H' := Aside0.mk H
           clear H
           go_wp2
           go_meet
           case rel => exact ⟨_, ((a1_4 == 3)), zS, (by first | exact H' | (subst_vars; exact H')), ⟨by have := HJ45.out; first | omega | exact Nat.le_refl _⟩, ⟨zV HO_197003.out⟩, ⟨zK BK196.out⟩, ⟨zW HB.out⟩⟩
          ·have c62b0 := beq_eq_false_iff_ne.mpr c62
           have c62b1 := bne_iff_ne.mpr c62
           (first | rw [c62b0] | (simp only [i64_w, i32_w]; rw [c62b0]) | skip)
           have H' := Aside0.mk H
           clear H
           go_wp2
           go_meet
           case rel => exact ⟨_, (false), zS, (by first | exact H' | (subst_vars; exact H')), ⟨by have := HJ45.out; first | omega | exact Nat.le_refl _⟩, ⟨zV HO_197003.out⟩, ⟨zK BK196.out⟩, ⟨zW HB.out⟩⟩
         case rest =>
          clear HC61
          try clear c1
          try clear p2
          try clear c3
          try clear c3b0
          try clear c3b1
          try clear c4
          try clear c5
          try clear c6
          try clear c15
          try clear c17
          try clear c18
          try clear c18b0
          try clear c18b1
          try clear c33
          try clear c33b0
          try clear c33b1
          try clear c41
          try clear c41b0
          try clear c41b1
          try clear c49
          try clear c49b0
          try clear c49b1
          try clear c50
          try clear c54
          try clear c54b0
          try clear c54b1
          try clear c62
          try clear c62b0
          try clear c62b1
          try clear hcz23_0 hcz23_1 hcz23_2 hcz23_3 hcz23_4 hcz23_5 hfz23_0 hfz23_1 hfz23_2 hfz23_3 hfz23_4 hfz23_5
          try clear hcz36_0 hcz36_1 hcz36_2 hcz36_3 hcz36_4 hcz36_5 hfz36_0 hfz36_1 hfz36_2 hfz36_3 hfz36_4 hfz36_5
          try clear hcz43_0 hcz43_1 hcz43_2 hcz43_3 hcz43_4 hcz43_5 hfz43_0 hfz43_1 hfz43_2 hfz43_3 hfz43_4 hfz43_5
          try clear hcz8_0 hcz8_1 hcz8_2 hcz8_3 hcz8_4 hcz8_5 hfz8_0 hfz8_1 hfz8_2 hfz8_3 hfz8_4 hfz8_5
          try clear hcz51_0 hcz51_1 hcz51_2 hcz51_3 hcz51_4 hcz51_5 hfz51_0 hfz51_1 hfz51_2 hfz51_3 hfz51_4 hfz51_5
          try clear hcz56_0 hcz56_1 hcz56_2 hcz56_3 hcz56_4 hcz56_5 hfz56_0 hfz56_1 hfz56_2 hfz56_3 hfz56_4 hfz56_5
          try clear hcz8_0 hcz8_1 hcz8_2 hcz8_3 hcz8_4 hcz8_5 hfz8_0 hfz8_1 hfz8_2 hfz8_3 hfz8_4 hfz8_5
          try clear p2
          obtain ⟨kq, x57_60, rfl, HA, HJ60, HO_197003, BK196, HB⟩ := hcut
          cases kq with
          | zero => exact absurd HA.out (by simp [spec_l4Make.j1])
          | succ kj60 =>
           have H := HA.out
           clear HA
           simp only [spec_l4Make.j1] at H
           replace H := zB0 H
           rcases H with ⟨rfl, H⟩ | ⟨rfl, H⟩
           ·obtain ⟨y268, hy268⟩ : ∃ y_ : List (S75), y_ = (([(⟨2, (⟨a1_0, a1_1, a1_2, l1_3⟩ : S32)⟩ : S75)] : List (S75))) := ⟨_, rfl⟩
            replace H : (some y268) = some r := zY hy268 H
            have Ny268 := Aside0.mk hy268
            clear hy268
            obtain rfl := Option.some.inj H
            obtain ⟨hcz64_0, hcz64_1, hcz64_2, hcz64_3, hcz64_4, hcz64_5, hfz64_0, hfz64_1, hfz64_2, hfz64_3, hfz64_4, hfz64_5⟩ := ze6 BK196.out
            go_wp2_with (first | ((with_reducible refine gate_dst (N := 66) rfl ?_); refine Kd.N_lit k75 _ 75 ?hg (N' := 66) ?hd (xs := ([(⟨2, (⟨a1_0, a1_1, a1_2, l1_3⟩ : S32)⟩ : S75)] : List (S75))) (inner := [.int .i64 2, .int .i64 a1_0, .int .i64 a1_1, .int .i64 a1_2, .slice A1_3 l1_3.length c1_3]) (ok := (fun k_ => (P1_3_ k_ ∨ w.heap.size ≤ k_) ∧ k_ ≠ gb196)) ?hr ?hp (fun _ hk => hk) ((show ∀ k_, wc.heap.size ≤ k_ → (fun k_ => (P1_3_ k_ ∨ w.heap.size ≤ k_) ∧ k_ ≠ gb196) k_ from fun k_ hk => ⟨(.inr (Nat.le_trans (below_size (zW HB.out)) hk)), Kd.freshB (g := gb196) (o := .cells #[.int .i64 a1_0, .int .i64 a1_1, .int .i64 a1_2, .slice A1_3 l1_3.length c1_3, .int .i64 a1_4, .bool a1_5] 169 (0, 0)) (zK BK196.out) k_ hk⟩) _ (Nat.le_refl _)) (Below.refl _ _) (Nat.le_refl _) (by simp) ?_; (case hd => rfl); (case hg => rfl); (case hr => first | (go_simp; done) | (go_simp; rfl)); (case hp => exact (Reps.c5 (show Kd.FK k75 _ _ (⟨2, (⟨a1_0, a1_1, a1_2, l1_3⟩ : S32)⟩ : S75) [.int .i64 2, .int .i64 a1_0, .int .i64 a1_1, .int .i64 a1_2, .slice A1_3 l1_3.length c1_3] from (k75_mkF _ _ (⟨2, (⟨a1_0, a1_1, a1_2, l1_3⟩ : S32)⟩ : S75) (Kd.V_reads' (Kd.V_mono (ok' := (fun k_ => (P1_3_ k_ ∨ w.heap.size ≤ k_) ∧ k_ ≠ gb196)) (HO_197003.out) (fun k_ hk => ⟨hk.1, hk.2⟩))).2.1 (Kd.V_F (Kd.V_mono (ok' := (fun k_ => (P1_3_ k_ ∨ w.heap.size ≤ k_) ∧ k_ ≠ gb196)) (HO_197003.out) (fun k_ hk => ⟨hk.1, hk.2⟩))))) (Reps.none _ _))); intro v269 w65 ho66 hb hg_ hnew_; clear hg_ hnew_; (first | rw [← Ny268.out] at ho66 | (simp only [Int.reduceToNat] at ho66; rw [← Ny268.out] at ho66)); replace HO_197003 := zA (Kd.V_elder' (zV HO_197003.out) (Kd.N_base ho66) hb); have HO270 := zA (Kd.N_lower ho66 (below_size (zW HB.out))); replace BK196 := zb BK196 hb; replace HB := zh HB hb; clear hb ho66))
            go_ret
            exact ⟨_, zE, zNt (Kd.N_mono HO270.out (fun _ hk => hk.1)), zW HB.out⟩
           ·replace H := zI1 H
            rcases H with ⟨c67, H⟩ | ⟨c67, H⟩
            ·have c67b0 := beq_iff_eq.mpr c67
             have c67b1 := bne_eq_false_iff_eq.mpr c67
             clear c67
             replace H := zj H
             obtain ⟨⟨t271, t272, t273, t274⟩, A68, H⟩ := H
             try dsimp only at H
             replace H := zj H
             obtain ⟨⟨t277, t278, t279, t280, t281⟩, A69, H⟩ := H
             try dsimp only at H
             obtain ⟨y284, hy284⟩ : ∃ y_ : List (S75), y_ = (([(⟨t277, (⟨t278, t279, t280, t281⟩ : S32)⟩ : S75)] : List (S75))) := ⟨_, rfl⟩
             replace H : (some y284) = some r := zY hy284 H
             have Ny284 := Aside0.mk hy284
             clear hy284
             obtain rfl := Option.some.inj H
             obtain ⟨hcz70_0, hcz70_1, hcz70_2, hcz70_3, hcz70_4, hcz70_5, hfz70_0, hfz70_1, hfz70_2, hfz70_3, hfz70_4, hfz70_5⟩ := ze6 BK196.out
             go_wp2_with (first | ((with_reducible refine zq 181 ?_); refine zg (some 71) Tryz.func181 #[.agg #[.int .i64 a1_0, .int .i64 a1_1, .int .i64 a1_2, .slice A1_3 l1_3.length c1_3, .int .i64 a1_4, .bool a1_5]] ?_; (with_reducible refine (spec_l4Next.calls a1_0 a1_1 a1_2 _ _ l1_3 a1_4 a1_5 t271 t272 t273 t274 _ ?side1 ?side2 A68.out).mono ?_); (case side1 => repeat (first | exact (Kd.V_reads' HO_197003.out).2.2 | (with_reducible refine Kd.C_alloc ?_ _) | (with_reducible refine Kd.C_drewN ?_ _) | (with_reducible refine Kd.C_drew ?_))); (case side2 => exact (Kd.V_reads' HO_197003.out).2.1); rintro e w71 ⟨v275, rfl, ho0, hb⟩; refine ⟨_, rfl, ?_⟩; replace HO_197003 := zA (Kd.V_elder' (zV HO_197003.out) (Kd.R_base ho0) hb); have HO276 := zA (Kd.R_lower (Kd.R_newM (M := fun k_ => (w.heap.size ≤ k_)) ho0 (below_size (zW HB.out)) (fun k_ h_ => h_)) (below_size (zW HB.out))); replace BK196 := zb BK196 hb; replace HB := zh HB hb; (try clear hb ho0); obtain ⟨Ao72, co72, eo72⟩ := Kd.R_slice HO276.out; subst eo72) | ((with_reducible refine zq 178 ?_); refine zg (some 72) Tryz.func178 #[.agg #[.int .i64 t271, .int .i64 t272, .int .i64 t273, .slice Ao72 t274.length co72]] ?_; (with_reducible refine (spec_l4Below.calls t271 t272 t273 _ _ t274 t277 t278 t279 t280 t281 _ ?side1 ?side2 A69.out).mono ?_); (case side1 => repeat (first | exact (Kd.R_reads' HO276.out).2.2 | (with_reducible refine Kd.C_alloc ?_ _) | (with_reducible refine Kd.C_drewN ?_ _) | (with_reducible refine Kd.C_drew ?_))); (case side2 => exact (Kd.R_reads' HO276.out).2.1); rintro e w73 ⟨v282, rfl, ho0, hb⟩; refine ⟨_, rfl, ?_⟩; replace HO_197003 := zA (Kd.V_elder' (zV HO_197003.out) (Kd.R_base ho0) hb); have HO283 := zA (Kd.R_lower (Kd.R_new' (Kd.R_newM (M := fun k_ => (w.heap.size ≤ k_)) ho0 (below_size (zW HB.out)) (fun k_ h_ => h_)) (Kd.R_lt (zR HO276.out))) (below_size (zW HB.out))); replace HO276 := zA (Kd.R_elder' (zR HO276.out) (Kd.R_base ho0) hb); replace BK196 := zb BK196 hb; replace HB := zh HB hb; (try clear hb ho0); obtain ⟨Ao74, co74, eo74⟩ := Kd.R_slice HO283.out; subst eo74) | ((with_reducible refine gate_dst (N := 73) rfl ?_); refine Kd.N_lit k75 _ 75 ?hg (N' := 73) ?hd (xs := ([(⟨t277, (⟨t278, t279, t280, t281⟩ : S32)⟩ : S75)] : List (S75))) (inner := [.int .i64 t277, .int .i64 t278, .int .i64 t279, .int .i64 t280, .slice Ao74 t281.length co74]) (ok := (fun k_ => (P1_3_ k_ ∨ w.heap.size ≤ k_) ∧ some k_ ≠ (.slice Ao72 t274.length co72 : Value).ownBlock ∧ k_ ≠ gb196)) ?hr ?hp (fun _ hk => hk) ((show ∀ k_, w73.heap.size ≤ k_ → (fun k_ => (P1_3_ k_ ∨ w.heap.size ≤ k_) ∧ some k_ ≠ (.slice Ao72 t274.length co72 : Value).ownBlock ∧ k_ ≠ gb196) k_ from fun k_ hk => ⟨(.inr (Nat.le_trans (below_size (zW HB.out)) hk)), Kd.fresh' (Kd.R_lt (zR HO276.out)) k_ hk, Kd.freshB (g := gb196) (o := .cells #[.int .i64 a1_0, .int .i64 a1_1, .int .i64 a1_2, .slice A1_3 l1_3.length c1_3, .int .i64 a1_4, .bool a1_5] 169 (0, 0)) (zK BK196.out) k_ hk⟩) _ (Nat.le_refl _)) (Below.refl _ _) (Nat.le_refl _) (by simp) ?_; (case hd => rfl); (case hg => rfl); (case hr => first | (go_simp; done) | (go_simp; rfl)); (case hp => exact (Reps.c5 (show Kd.FK k75 _ _ (⟨t277, (⟨t278, t279, t280, t281⟩ : S32)⟩ : S75) [.int .i64 t277, .int .i64 t278, .int .i64 t279, .int .i64 t280, .slice Ao74 t281.length co74] from (k75_mkF _ _ (⟨t277, (⟨t278, t279, t280, t281⟩ : S32)⟩ : S75) (Kd.R_reads' (Kd.R_mono (ok' := (fun k_ => (P1_3_ k_ ∨ w.heap.size ≤ k_) ∧ some k_ ≠ (.slice Ao72 t274.length co72 : Value).ownBlock ∧ k_ ≠ gb196)) (Kd.R_types (HO283.out) BK196.out (by decide)) (fun k_ hk => ⟨(.inr (hk.1.1.1)), ⟨hk.1.2, hk.2⟩⟩))).2.1 (Kd.R_F (Kd.R_mono (ok' := (fun k_ => (P1_3_ k_ ∨ w.heap.size ≤ k_) ∧ some k_ ≠ (.slice Ao72 t274.length co72 : Value).ownBlock ∧ k_ ≠ gb196)) (Kd.R_types (HO283.out) BK196.out (by decide)) (fun k_ hk => ⟨(.inr (hk.1.1.1)), ⟨hk.1.2, hk.2⟩⟩))))) (Reps.none _ _))); intro v285 w75 ho76 hb hg_ hnew_; clear hg_ hnew_; (first | rw [← Ny284.out] at ho76 | (simp only [Int.reduceToNat] at ho76; rw [← Ny284.out] at ho76)); replace HO_197003 := zA (Kd.V_elder' (zV HO_197003.out) (Kd.N_base ho76) hb); replace HO276 := zr HO276 hb; have HO286 := zA (Kd.N_lower ho76 (below_size (zW HB.out))); replace BK196 := zb BK196 hb; replace HB := zh HB hb; clear HO283; clear hb ho76))
             go_ret
             exact ⟨_, zE, zNt (Kd.N_mono HO286.out (fun _ hk => hk.1)), zW HB.out⟩
            ·have c67b0 := beq_eq_false_iff_ne.mpr c67
             have c67b1 := bne_iff_ne.mpr c67
             replace H := zI1 H
             rcases H with ⟨c77, H⟩ | ⟨c77, H⟩
             ·have c77b0 : (a1_4 == 3) = true := c77
              (try (have c77b1 : decide (a1_4 = 3) = true := by simpa using c77))
              (try (have c77b2 : (a1_4 == 3) = true := by simpa using c77))
              clear c77
              obtain ⟨y287, hy287⟩ : ∃ y_ : List (S75), y_ = (([(⟨0, (⟨a1_0, a1_1, a1_2, l1_3⟩ : S32)⟩ : S75)] : List (S75))) := ⟨_, rfl⟩
              replace H : (some y287) = some r := zY hy287 H
              have Ny287 := Aside0.mk hy287
              clear hy287
              obtain rfl := Option.some.inj H
              obtain ⟨hcz78_0, hcz78_1, hcz78_2, hcz78_3, hcz78_4, hcz78_5, hfz78_0, hfz78_1, hfz78_2, hfz78_3, hfz78_4, hfz78_5⟩ := ze6 BK196.out
              go_wp2_with (first | ((with_reducible refine gate_dst (N := 79) rfl ?_); refine Kd.N_lit k75 _ 75 ?hg (N' := 79) ?hd (xs := ([(⟨0, (⟨a1_0, a1_1, a1_2, l1_3⟩ : S32)⟩ : S75)] : List (S75))) (inner := [.int .i64 0, .int .i64 a1_0, .int .i64 a1_1, .int .i64 a1_2, .slice A1_3 l1_3.length c1_3]) (ok := (fun k_ => (P1_3_ k_ ∨ w.heap.size ≤ k_) ∧ k_ ≠ gb196)) ?hr ?hp (fun _ hk => hk) ((show ∀ k_, wc.heap.size ≤ k_ → (fun k_ => (P1_3_ k_ ∨ w.heap.size ≤ k_) ∧ k_ ≠ gb196) k_ from fun k_ hk => ⟨(.inr (Nat.le_trans (below_size (zW HB.out)) hk)), Kd.freshB (g := gb196) (o := .cells #[.int .i64 a1_0, .int .i64 a1_1, .int .i64 a1_2, .slice A1_3 l1_3.length c1_3, .int .i64 a1_4, .bool a1_5] 169 (0, 0)) (zK BK196.out) k_ hk⟩) _ (Nat.le_refl _)) (Below.refl _ _) (Nat.le_refl _) (by simp) ?_; (case hd => rfl); (case hg => rfl); (case hr => first | (go_simp; done) | (go_simp; rfl)); (case hp => exact (Reps.c5 (show Kd.FK k75 _ _ (⟨0, (⟨a1_0, a1_1, a1_2, l1_3⟩ : S32)⟩ : S75) [.int .i64 0, .int .i64 a1_0, .int .i64 a1_1, .int .i64 a1_2, .slice A1_3 l1_3.length c1_3] from (k75_mkF _ _ (⟨0, (⟨a1_0, a1_1, a1_2, l1_3⟩ : S32)⟩ : S75) (Kd.V_reads' (Kd.V_mono (ok' := (fun k_ => (P1_3_ k_ ∨ w.heap.size ≤ k_) ∧ k_ ≠ gb196)) (HO_197003.out) (fun k_ hk => ⟨hk.1, hk.2⟩))).2.1 (Kd.V_F (Kd.V_mono (ok' := (fun k_ => (P1_3_ k_ ∨ w.heap.size ≤ k_) ∧ k_ ≠ gb196)) (HO_197003.out) (fun k_ hk => ⟨hk.1, hk.2⟩))))) (Reps.none _ _))); intro v288 w79 ho80 hb hg_ hnew_; clear hg_ hnew_; (first | rw [← Ny287.out] at ho80 | (simp only [Int.reduceToNat] at ho80; rw [← Ny287.out] at ho80)); replace HO_197003 := zA (Kd.V_elder' (zV HO_197003.out) (Kd.N_base ho80) hb); have HO289 := zA (Kd.N_lower ho80 (below_size (zW HB.out))); replace BK196 := zb BK196 hb; replace HB := zh HB hb; clear hb ho80))
              go_ret
              exact ⟨_, zE, zNt (Kd.N_mono HO289.out (fun _ hk => hk.1)), zW HB.out⟩
             ·have c77b0 : (a1_4 == 3) = false := by simpa using c77
              (try (have c77b1 : decide (a1_4 = 3) = false := by simpa using c77))
              (try (have c77b2 : (a1_4 == 3) = false := by simpa using c77))
              (try (have c77b3 : ¬ (a1_4 = 3) := by simpa using c77))
              clear c77
              replace H := zj H
              obtain ⟨⟨t290, t291, t292, t293, t294⟩, A81, H⟩ := H
              try dsimp only at H
              replace H := zj H
              obtain ⟨⟨t297, t298, t299, t300⟩, A82, H⟩ := H
              try dsimp only at H
              replace H := zj H
              obtain ⟨⟨t303, t304, t305, t306, t307⟩, A83, H⟩ := H
              try dsimp only at H
              obtain ⟨y310, hy310⟩ : ∃ y_ : List (S75), y_ = (([(⟨t290, (⟨t291, t292, t293, t294⟩ : S32)⟩ : S75), (⟨t303, (⟨t304, t305, t306, t307⟩ : S32)⟩ : S75)] : List (S75))) := ⟨_, rfl⟩
              replace H : (some y310) = some r := zY hy310 H
              have Ny310 := Aside0.mk hy310
              clear hy310
              obtain rfl := Option.some.inj H
              try go_wp2
              replace HO_197003 := zA (Kd.V_drew HO_197003.out)
              replace BK196 := zA (blk_drew BK196.out)
              replace HB := zA (below_drew1 HB.out)
              refine start_ (n := 7) (S := fun w' => w'.cell? ⟨gb196, 0, none⟩ = some (.int .i64 a1_0) ∧ w'.cell? ⟨gb196, 1, none⟩ = some (.int .i64 a1_1) ∧ w'.cell? ⟨gb196, 2, none⟩ = some (.int .i64 a1_2) ∧ w'.cell? ⟨gb196, 3, none⟩ = some (.slice A1_3 l1_3.length c1_3) ∧ w'.cell? ⟨gb196, 4, none⟩ = some (.int .i64 a1_4) ∧ w'.cell? ⟨gb196, 5, none⟩ = some (.bool a1_5)) (ds := []) (Array.replicate 7 false) (by kernel_rfl) rfl rfl zO fun hHeld => ?_
              generalize wc.drew = w84 at HO_197003 BK196 HB hHeld ⊢
              refine zt 0 80 ?_
              refine zt 2 82 ?_
              refine zo 1 (some 81) fun K hK => ?_
              refine goes_ Tryz.func177 (by kernel_rfl) rfl #[.agg #[.int .i64 a1_0, .int .i64 a1_1, .int .i64 a1_2, .slice A1_3 l1_3.length c1_3, .int .i64 a1_4, .bool a1_5]] (by rfl) rfl rfl zM ?_
              with_reducible refine (spec_l4From.calls a1_0 a1_1 a1_2 (fun k_ => ((P1_3_ k_ ∨ w.heap.size ≤ k_) ∧ k_ ≠ gb196)) _ _ l1_3 a1_4 a1_5 t290 t291 t292 t293 t294 _ ?side1 A81.out).mono ?_
              (case side1 => exact HO_197003.out)
              rintro e w85 ⟨v295, rfl, ho0, hb⟩
              refine ⟨_, rfl, ?_⟩
              replace HO_197003 := zA (Kd.V_below (zV HO_197003.out) hb)
              have HO296 := zA (Kd.V_lower (Kd.V_mono (ok' := fun k_ => (P1_3_ k_ ∨ w.heap.size ≤ k_) ∧ k_ ≠ gb196) ho0 (fun k_ hk_ => ⟨Or.elim hk_ (fun hs_ => hs_.1) (fun hn_ => (.inr (Nat.le_trans (below_size (zW HB.out)) hn_))), Or.elim hk_ (fun hs_ => hs_.2) (fun hn_ => (Kd.freshB (g := gb196) (o := .cells #[.int .i64 a1_0, .int .i64 a1_1, .int .i64 a1_2, .slice A1_3 l1_3.length c1_3, .int .i64 a1_4, .bool a1_5] 169 (0, 0)) (zK BK196.out) k_ hn_))⟩)) (below_size (zW HB.out)))
              replace BK196 := zb BK196 hb
              replace HB := zh HB hb
              (try clear hb ho0)
              refine hK.out _ _ zO fun hHeld => ?_
              clear hK K
              refine zn ?_
              refine zo 3 (some 83) fun K hK => ?_
              refine goes_ Tryz.func181 (by kernel_rfl) rfl #[.agg #[.int .i64 a1_0, .int .i64 a1_1, .int .i64 a1_2, .slice A1_3 l1_3.length c1_3, .int .i64 a1_4, .bool a1_5]] (by rfl) rfl rfl zM ?_
              with_reducible refine (spec_l4Next.calls a1_0 a1_1 a1_2 _ _ l1_3 a1_4 a1_5 t297 t298 t299 t300 _ ?side1 ?side2 A82.out).mono ?_
              (case side1 => repeat (first | exact (Kd.V_reads' HO_197003.out).2.2 | (with_reducible refine Kd.C_alloc ?_ _) | (with_reducible refine Kd.C_drewN ?_ _) | (with_reducible refine Kd.C_drew ?_)))
              (case side2 => exact (Kd.V_reads' HO_197003.out).2.1)
              rintro e w86 ⟨v301, rfl, ho0, hb⟩
              refine ⟨_, rfl, ?_⟩
              replace HO_197003 := zA (Kd.V_elder' (zV HO_197003.out) (Kd.R_base ho0) hb)
              replace HO296 := zA (Kd.V_elder' (zV HO296.out) (Kd.R_base ho0) hb)
              have HO302 := zA (Kd.R_lower (Kd.R_newM (M := fun k_ => (w.heap.size ≤ k_)) ho0 (below_size (zW HB.out)) (fun k_ h_ => h_)) (below_size (zW HB.out)))
              replace BK196 := zb BK196 hb
              replace HB := zh HB hb
              (try clear hb ho0)
              obtain ⟨Ao87, co87, eo87⟩ := Kd.R_slice HO302.out
              (first | subst eo87 | (injection eo87 with f1_ f2_ f3_; have f4_ := f1_.symm; have f5_ := f3_.symm; clear f1_ f2_ f3_; subst f4_; subst f5_))
              refine hK.out _ _ zO fun hHeld => ?_
              clear hK K
              refine zn ?_
              refine zo 4 (some 84) fun K hK => ?_
              refine goes_ Tryz.func178 (by kernel_rfl) rfl #[.agg #[.int .i64 t297, .int .i64 t298, .int .i64 t299, .slice Ao87 t300.length co87]] (by rfl) rfl rfl zM ?_
              with_reducible refine (spec_l4Below.calls t297 t298 t299 _ _ t300 t303 t304 t305 t306 t307 _ ?side1 ?side2 A83.out).mono ?_
              (case side1 => repeat (first | exact (Kd.R_reads' HO302.out).2.2 | (with_reducible refine Kd.C_alloc ?_ _) | (with_reducible refine Kd.C_drewN ?_ _) | (with_reducible refine Kd.C_drew ?_)))
              (case side2 => exact (Kd.R_reads' HO302.out).2.1)
              rintro e w88 ⟨v308, rfl, ho0, hb⟩
              refine ⟨_, rfl, ?_⟩
              replace HO_197003 := zA (Kd.V_elder' (zV HO_197003.out) (Kd.R_base ho0) hb)
              replace HO296 := zA (Kd.V_elder' (zV HO296.out) (Kd.R_base ho0) hb)
              have HO309 := zA (Kd.R_lower (Kd.R_new' (Kd.R_newM (M := fun k_ => (w.heap.size ≤ k_)) ho0 (below_size (zW HB.out)) (fun k_ h_ => h_)) (Kd.R_lt (zR HO302.out))) (below_size (zW HB.out)))
              replace HO302 := zA (Kd.R_elder' (zR HO302.out) (Kd.R_base ho0) hb)
              replace BK196 := zb BK196 hb
              replace HB := zh HB hb
              (try clear hb ho0)
              obtain ⟨Ao89, co89, eo89⟩ := Kd.V_slice HO296.out
              (first | subst eo89 | (injection eo89 with f1_ f2_ f3_; have f4_ := f1_.symm; have f5_ := f3_.symm; clear f1_ f2_ f3_; subst f4_; subst f5_))
              obtain ⟨Ao90, co90, eo90⟩ := Kd.R_slice HO309.out
              (first | subst eo90 | (injection eo90 with f1_ f2_ f3_; have f4_ := f1_.symm; have f5_ := f3_.symm; clear f1_ f2_ f3_; subst f4_; subst f5_))
              refine hK.out _ _ zO fun hHeld => ?_
              clear hK K
              refine zn ?_
              refine zo 5 (some 85) fun K hK => ?_
              refine Kd.N_lit_step k75 _ 75 ?hg (N' := 85) ?hd (xs := ([(⟨t290, (⟨t291, t292, t293, t294⟩ : S32)⟩ : S75), (⟨t303, (⟨t304, t305, t306, t307⟩ : S32)⟩ : S75)] : List (S75))) (inner := [.int .i64 t290, .int .i64 t291, .int .i64 t292, .int .i64 t293, .slice Ao89 t294.length co89, .int .i64 t303, .int .i64 t304, .int .i64 t305, .int .i64 t306, .slice Ao90 t307.length co90]) (ok := (fun k_ => (P1_3_ k_ ∨ w.heap.size ≤ k_) ∧ some k_ ≠ (.slice Ao87 t300.length co87 : Value).ownBlock ∧ k_ ≠ gb196)) ?hr ?hp (fun _ hk => hk) ((show ∀ k_, w88.heap.size ≤ k_ → (fun k_ => (P1_3_ k_ ∨ w.heap.size ≤ k_) ∧ some k_ ≠ (.slice Ao87 t300.length co87 : Value).ownBlock ∧ k_ ≠ gb196) k_ from fun k_ hk => ⟨(.inr (Nat.le_trans (below_size (zW HB.out)) hk)), Kd.fresh' (Kd.R_lt (zR HO302.out)) k_ hk, Kd.freshB (g := gb196) (o := .cells #[.int .i64 a1_0, .int .i64 a1_1, .int .i64 a1_2, .slice A1_3 l1_3.length c1_3, .int .i64 a1_4, .bool a1_5] 169 (0, 0)) (zK BK196.out) k_ hk⟩) _ (Nat.le_refl _)) (Below.refl _ _) (Nat.le_refl _) (by simp) ?_; (case hd => rfl); (case hg => rfl); (case hr => first | (go_simp; done) | (go_simp; rfl)); (case hp => exact (Reps.c5 (show Kd.FK k75 _ _ (⟨t290, (⟨t291, t292, t293, t294⟩ : S32)⟩ : S75) [.int .i64 t290, .int .i64 t291, .int .i64 t292, .int .i64 t293, .slice Ao89 t294.length co89] from (k75_mkF _ _ (⟨t290, (⟨t291, t292, t293, t294⟩ : S32)⟩ : S75) (Kd.V_reads' (Kd.V_mono (ok' := (fun k_ => (P1_3_ k_ ∨ w.heap.size ≤ k_) ∧ some k_ ≠ (.slice Ao87 t300.length co87 : Value).ownBlock ∧ k_ ≠ gb196)) (HO296.out) (fun k_ hk => ⟨hk.1.1.1, ⟨hk.1.2, hk.1.1.2⟩⟩))).2.1 (Kd.V_F (Kd.V_mono (ok' := (fun k_ => (P1_3_ k_ ∨ w.heap.size ≤ k_) ∧ some k_ ≠ (.slice Ao87 t300.length co87 : Value).ownBlock ∧ k_ ≠ gb196)) (HO296.out) (fun k_ hk => ⟨hk.1.1.1, ⟨hk.1.2, hk.1.1.2⟩⟩))))) (Reps.c5 (show Kd.FK k75 _ _ (⟨t303, (⟨t304, t305, t306, t307⟩ : S32)⟩ : S75) [.int .i64 t303, .int .i64 t304, .int .i64 t305, .int .i64 t306, .slice Ao90 t307.length co90] from (k75_mkF _ _ (⟨t303, (⟨t304, t305, t306, t307⟩ : S32)⟩ : S75) (Kd.R_reads' (Kd.R_mono (ok' := (fun k_ => (P1_3_ k_ ∨ w.heap.size ≤ k_) ∧ some k_ ≠ (.slice Ao87 t300.length co87 : Value).ownBlock ∧ k_ ≠ gb196)) (Kd.R_types (HO309.out) BK196.out (by decide)) (fun k_ hk => ⟨(.inr (hk.1.1.1)), ⟨hk.1.2, hk.2⟩⟩))).2.1 (Kd.R_F (Kd.R_mono (ok' := (fun k_ => (P1_3_ k_ ∨ w.heap.size ≤ k_) ∧ some k_ ≠ (.slice Ao87 t300.length co87 : Value).ownBlock ∧ k_ ≠ gb196)) (Kd.R_types (HO309.out) BK196.out (by decide)) (fun k_ hk => ⟨(.inr (hk.1.1.1)), ⟨hk.1.2, hk.2⟩⟩))))) (Reps.none _ _))))
              intro v311 w91 ho92 hb hg_ hnew_
              clear hg_ hnew_
              (first | rw [← Ny310.out] at ho92 | (simp only [Int.reduceToNat] at ho92; rw [← Ny310.out] at ho92))
              replace HO_197003 := zA (Kd.V_elder' (zV HO_197003.out) (Kd.N_base ho92) hb)
              replace HO296 := zA (Kd.V_elder' (zV HO296.out) (Kd.N_base ho92) hb)
              replace HO302 := zr HO302 hb
              have HO312 := zA (Kd.N_lower ho92 (below_size (zW HB.out)))
              replace BK196 := zb BK196 hb
              replace HB := zh HB hb
              clear HO309
              clear hb ho92
              refine hK.out _ _ zO fun hHeld => ?_
              clear hK K
              refine zn ?_
              refine zp 6 4 ?_
              refine done_ (by kernel_rfl) ?_
              try go_wp2
              go_ret
              exact ⟨_, zE, zNt (Kd.N_mono HO312.out (fun _ hk => hk.1)), zW HB.out⟩
end Go.Proofs.YtpcdhoeoefoeoaaGreatDoor.PGA
