/- The walks of the functions that these laws reach, and what each comes to: printed by this session's program. -/
import Derived.Test.YtbjgmbhkofgjaaaDoorZGAPGAx0
import Derived.Test.YtbjgmbhkofgjaaaDoorZGAPGAx3
import Derived.Test.YtbjgmbhkofgjaaaDoorZGAPGAx5
import Derived.Test.YtbjgmbhkofgjaaaDoorZGAPGAx6
import Derived.Test.YtbjgmbhkofgjaaaDoorZGAPGAx8
import Derived.Test.YtbjgmbhkofgjaaaDoorZGASays
namespace Go.Proofs.YtbjgmbhkofgjaaaDoor.PGA
open Go.RowKit Go.Proofs.YtbjgmbhkofgjaaaDoorW.PrintWords Go.Proofs.YtbjgmbhkofgjaaaDoorW.PrintLast Go.Proofs.YtbjgmbhkofgjaaaDoorW.PrintMore
attribute [local go_sem high] Go.Proofs.YtbjgmbhkofgjaaaDoor.Mine.str_gtr Go.Proofs.YtbjgmbhkofgjaaaDoor.Mine.str_leq Go.Proofs.YtbjgmbhkofgjaaaDoor.Mine.str_geq
attribute [local go_sem] max2_int min2_int max_two min_two max_three min_three max_four min_four   -- for this text's walks alone
set_option linter.unusedVariables false
set_option maxHeartbeats 8000000
set_option maxRecDepth 100000
set_option linter.unusedSimpArgs false
/-! ### impl_Matches: function 21 -/
def impl_Matches.f (k : Nat) (a0 : ByteArray) (a1 : ByteArray) : Option (Bool) := (impl_GlobOk.f k a0).bind fun t353 => (if t353 = true then ((impl_PathOk.f k a1).bind fun t354 => (if t354 = true then ((strings_Split.f a0 (⟨#[47]⟩ : ByteArray)).bind fun t355 => ((strings_Split.f a1 (⟨#[47]⟩ : ByteArray)).bind fun t358 => ((impl_globTakes.f k t355 t358).bind fun t361 => (some t361)))) else (some false))) else (some false))
theorem impl_Matches.calls (k : Nat) (a0 : ByteArray) (a1 : ByteArray) (r : Bool) (w : World) (hG : GW w) (h : impl_Matches.f k a0 a1 = some r) :
  Calls Tryd.prog 21 #[.string a0, .string a1] w fun e w' => e = .returned (.bool r) ∧ Below w.heap.size w w' := by
 have HG := Aside0.mk hG
 clear hG
 have HB := Aside0.mk (Below.refl w.heap.size w)
 have H : ((impl_GlobOk.f k a0).bind fun t353 => (if t353 = true then ((impl_PathOk.f k a1).bind fun t354 => (if t354 = true then ((strings_Split.f a0 (⟨#[47]⟩ : ByteArray)).bind fun t355 => ((strings_Split.f a1 (⟨#[47]⟩ : ByteArray)).bind fun t358 => ((impl_globTakes.f k t355 t358).bind fun t361 => (some t361)))) else (some false))) else (some false))) = some r := h
 clear h
 replace H := Option.bind_eq_some_iff.mp H
 obtain ⟨t353, A30, H⟩ := H
 replace H : (if t353 = true then ((impl_PathOk.f k a1).bind fun t354 => (if t354 = true then ((strings_Split.f a0 (⟨#[47]⟩ : ByteArray)).bind fun t355 => ((strings_Split.f a1 (⟨#[47]⟩ : ByteArray)).bind fun t358 => ((impl_globTakes.f k t355 t358).bind fun t361 => (some t361)))) else (some false))) else (some false)) = some r := H
 have A3 := Aside0.mk A30
 clear A30
 by_cases c4 : t353 = true
 ·subst c4
  have H1 : ((impl_PathOk.f k a1).bind fun t354 => (if t354 = true then ((strings_Split.f a0 (⟨#[47]⟩ : ByteArray)).bind fun t355 => ((strings_Split.f a1 (⟨#[47]⟩ : ByteArray)).bind fun t358 => ((impl_globTakes.f k t355 t358).bind fun t361 => (some t361)))) else (some false))) = some r := by rw [if_pos rfl] at H; exact H
  clear H
  have H := H1
  clear H1
  replace H := Option.bind_eq_some_iff.mp H
  obtain ⟨t354, A50, H⟩ := H
  replace H : (if t354 = true then ((strings_Split.f a0 (⟨#[47]⟩ : ByteArray)).bind fun t355 => ((strings_Split.f a1 (⟨#[47]⟩ : ByteArray)).bind fun t358 => ((impl_globTakes.f k t355 t358).bind fun t361 => (some t361)))) else (some false)) = some r := H
  have A5 := Aside0.mk A50
  clear A50
  by_cases c6 : t354 = true
  ·subst c6
   have H1 : ((strings_Split.f a0 (⟨#[47]⟩ : ByteArray)).bind fun t355 => ((strings_Split.f a1 (⟨#[47]⟩ : ByteArray)).bind fun t358 => ((impl_globTakes.f k t355 t358).bind fun t361 => (some t361)))) = some r := by rw [if_pos rfl] at H; exact H
   clear H
   have H := H1
   clear H1
   replace H := Option.bind_eq_some_iff.mp H
   obtain ⟨t355, A70, H⟩ := H
   replace H : ((strings_Split.f a1 (⟨#[47]⟩ : ByteArray)).bind fun t358 => ((impl_globTakes.f k t355 t358).bind fun t361 => (some t361))) = some r := H
   have A7 := Aside0.mk A70
   clear A70
   replace H := Option.bind_eq_some_iff.mp H
   obtain ⟨t358, A80, H⟩ := H
   replace H : ((impl_globTakes.f k t355 t358).bind fun t361 => (some t361)) = some r := H
   have A8 := Aside0.mk A80
   clear A80
   replace H := Option.bind_eq_some_iff.mp H
   obtain ⟨t361, A90, H⟩ := H
   replace H : (some t361) = some r := H
   have A9 := Aside0.mk A90
   clear A90
   obtain rfl := Option.some.inj H
   go_enter Tryd.func21, Tryd.ntmps21
   go_wp2_with (first | ((with_reducible refine gate_callee (f := 24) rfl ?_); refine goesL_ (some 6) rfl rfl Tryd.func24 (by kernel_rfl) rfl #[.string a0] rfl zM ?_; (with_reducible refine (impl_GlobOk.calls k a0 true _ ?side1 A3.out).mono ?_); (case side1 => exact GW.below HG.out (zB)); rintro e w10 ⟨rfl, hb⟩; refine ⟨_, rfl, ?_⟩; have n0_ := Aside0.mk (below_step (zB) hb); clear HB; have HB := n0_; clear n0_; (try clear hb); (try clear hb2); (try clear hk); (try clear hi)) | (go_at_call 22; (with_reducible refine (impl_PathOk.calls k a1 true _ ?side1 A5.out).mono ?_); (case side1 => exact GW.below HG.out (zB)); rintro e w11 ⟨rfl, hb⟩; have n0_ := Aside0.mk (below_step (zB) hb); clear HB; have HB := n0_; clear n0_; (try clear hb); (try clear hb2); (try clear hk); (try clear hi)) | (go_at_call 35; (with_reducible refine (strings_Split.calls a0 (⟨#[47]⟩ : ByteArray) t355 _ ?side1 A7.out).mono ?_); (case side1 => exact GW.below HG.out (zB)); rintro e w12 ⟨v356, rfl, ho0, hb⟩; have n0_ := Aside0.mk (Kd.R_lower ho0 (below_size (zB))); have n1_ := Aside0.mk (below_step (zB) hb); clear HB; have HO357 := n0_; have HB := n1_; clear n0_ n1_; (try clear hb); (try clear hb2); (try clear hk); (try clear hi); (try clear ho0)) | (go_at_call 35; (with_reducible refine (strings_Split.calls a1 (⟨#[47]⟩ : ByteArray) t358 _ ?side1 A8.out).mono ?_); (case side1 => exact GW.below HG.out (zB)); rintro e w13 ⟨v359, rfl, ho0, hb⟩; have n0_ := Aside0.mk (Kd.R_elder' (by (with_reducible repeat (first | apply Kd.R_alloc | apply Kd.R_drewN | apply Kd.R_drew)); exact HO357.out) (Kd.R_base ho0) hb); have n1_ := Aside0.mk (Kd.R_lower (Kd.R_new' ho0 (Kd.R_lt (by (with_reducible repeat (first | apply Kd.R_alloc | apply Kd.R_drewN | apply Kd.R_drew)); exact HO357.out))) (below_size (zB))); have n2_ := Aside0.mk (below_step (zB) hb); clear HO357; clear HB; have HO357 := n0_; have HO360 := n1_; have HB := n2_; clear n0_ n1_ n2_; (try clear hb); (try clear hb2); (try clear hk); (try clear hi); (try clear ho0); obtain ⟨Ao14, co14, eo14⟩ := Kd.R_slice HO357.out; subst eo14; obtain ⟨Ao15, co15, eo15⟩ := Kd.R_slice HO360.out; subst eo15) | (go_at_call 50; (with_reducible refine (impl_globTakes.calls k _ _ t355 _ _ t358 t361 _ ?side1 ?side2 ?side3 ?side4 A9.out).mono ?_); (case side1 => repeat (first | exact (Kd.R_reads' HO357.out).2.2 | (with_reducible refine Kd.C_alloc ?_ _) | (with_reducible refine Kd.C_drewN ?_ _) | (with_reducible refine Kd.C_drew ?_))); (case side2 => exact (Kd.R_reads' HO357.out).2.1); (case side3 => repeat (first | exact (Kd.R_reads' HO360.out).2.2 | (with_reducible refine Kd.C_alloc ?_ _) | (with_reducible refine Kd.C_drewN ?_ _) | (with_reducible refine Kd.C_drew ?_))); (case side4 => exact (Kd.R_reads' HO360.out).2.1); rintro e w16 ⟨rfl, hb⟩; have n0_ := Aside0.mk (Kd.R_below (by (with_reducible repeat (first | apply Kd.R_alloc | apply Kd.R_drewN | apply Kd.R_drew)); exact HO357.out) hb); have n1_ := Aside0.mk (Kd.R_below (by (with_reducible repeat (first | apply Kd.R_alloc | apply Kd.R_drewN | apply Kd.R_drew)); exact HO360.out) hb); have n2_ := Aside0.mk (below_step (zB) hb); clear HO357; clear HO360; clear HB; have HO357 := n0_; have HO360 := n1_; have HB := n2_; clear n0_ n1_ n2_; (try clear hb); (try clear hb2); (try clear hk); (try clear hi)))
   go_ret
   exact ⟨zE, zB⟩
  ·replace c6 := Bool.eq_false_iff.mpr c6
   subst c6
   have H1 : (some false) = some r := by rw [if_neg (show ¬ (false = true) by decide)] at H; exact H
   clear H
   have H := H1
   clear H1
   obtain rfl := Option.some.inj H
   go_enter Tryd.func21, Tryd.ntmps21
   go_wp2_with (first | ((with_reducible refine gate_callee (f := 24) rfl ?_); refine goesL_ (some 6) rfl rfl Tryd.func24 (by kernel_rfl) rfl #[.string a0] rfl zM ?_; (with_reducible refine (impl_GlobOk.calls k a0 true _ ?side1 A3.out).mono ?_); (case side1 => exact GW.below HG.out (zB)); rintro e w17 ⟨rfl, hb⟩; refine ⟨_, rfl, ?_⟩; have n0_ := Aside0.mk (below_step (zB) hb); clear HB; have HB := n0_; clear n0_; (try clear hb); (try clear hb2); (try clear hk); (try clear hi)) | (go_at_call 22; (with_reducible refine (impl_PathOk.calls k a1 false _ ?side1 A5.out).mono ?_); (case side1 => exact GW.below HG.out (zB)); rintro e w18 ⟨rfl, hb⟩; have n0_ := Aside0.mk (below_step (zB) hb); clear HB; have HB := n0_; clear n0_; (try clear hb); (try clear hb2); (try clear hk); (try clear hi)))
   go_ret
   exact ⟨zE, zB⟩
 ·replace c4 := Bool.eq_false_iff.mpr c4
  subst c4
  have H1 : (some false) = some r := by rw [if_neg (show ¬ (false = true) by decide)] at H; exact H
  clear H
  have H := H1
  clear H1
  obtain rfl := Option.some.inj H
  go_enter Tryd.func21, Tryd.ntmps21
  go_wp2_with (first | ((with_reducible refine gate_callee (f := 24) rfl ?_); refine goesL_ (some 6) rfl rfl Tryd.func24 (by kernel_rfl) rfl #[.string a0] rfl zM ?_; (with_reducible refine (impl_GlobOk.calls k a0 false _ ?side1 A3.out).mono ?_); (case side1 => exact GW.below HG.out (zB)); rintro e w19 ⟨rfl, hb⟩; refine ⟨_, rfl, ?_⟩; have n0_ := Aside0.mk (below_step (zB) hb); clear HB; have HB := n0_; clear n0_; (try clear hb); (try clear hb2); (try clear hk); (try clear hi)))
  go_ret
  exact ⟨zE, zB⟩
/-! ### impl_Picked: function 20 -/
mutual
def impl_Picked.l0 : Nat → List ByteArray → List (S44) → List (S44) → Int → Int → Option ((List (S44)))
 | 0, _, _, _, _, _ => none
 | k + 1, x1, x5, x10, x11, x12 => if x12 < x11 then (impl_Picked.j1 k x1 x5 x10 x11 x12) else (some x5)
def impl_Picked.j1 : Nat → List ByteArray → List (S44) → List (S44) → Int → Int → Option ((List (S44)))
 | 0, _, _, _, _, _ => none
 | k + 1, x1, x5, x10, x11, x12 => if 0 ≤ x12 then (if x12 < (x10.length : Int) then (impl_Picked.l1 k x1 x5 x10 x11 x12 x1 (x1.length : Int) 0 ((rd_T44 x10 x12).f0) ((rd_T44 x10 x12).f1)) else (none)) else (none)
def impl_Picked.l1 : Nat → List ByteArray → List (S44) → List (S44) → Int → Int → List ByteArray → Int → Int → ByteArray → ByteArray → Option ((List (S44)))
 | 0, _, _, _, _, _, _, _, _, _, _ => none
 | k + 1, x1, x5, x10, x11, x12, x16, x17, x18, x364000, x364001 => if x18 < x17 then (if 0 ≤ x18 then (if x18 < (x16.length : Int) then ((impl_Matches.f k (rdOf ByteArray.empty x16 x18) x364000).bind fun t365 => (if t365 = true then (if x5.length < 4398046511104 then (impl_Picked.l0 k x1 (x5 ++ [(⟨x364000, x364001⟩ : S44)]) x10 x11 (wrap64 (x12 + 1))) else (none)) else (impl_Picked.l1 k x1 x5 x10 x11 x12 x16 x17 (wrap64 (x18 + 1)) x364000 x364001))) else (none)) else (none)) else (impl_Picked.l0 k x1 x5 x10 x11 (wrap64 (x12 + 1)))
end
def impl_Picked.f (k : Nat) (l0 : List (S44)) (l1 : List ByteArray) : Option ((List (S44))) := impl_Picked.l0 k l1 ([] : List (S44)) l0 (l0.length : Int) 0
theorem impl_Picked.calls (k : Nat) (A0 : Option Addr) (c0 : Nat) (l0 : List (S44)) (A1 : Option Addr) (c1 : Nat) (l1 : List ByteArray) (r : List (S44)) (w : World) (hr0 : Kd.C k44 w A0 l0.length l0) (hc0 : l0.length ≤ c0) (hr1 : Kd.C Kd.string w A1 l1.length l1) (hc1 : l1.length ≤ c1) (hG : GW w) (h : impl_Picked.f k l0 l1 = some r) :
  Calls Tryd.prog 20 #[.slice A0 l0.length c0, .slice A1 l1.length c1] w fun e w' => ∃ v0_ : Value, e = .returned (v0_) ∧ Kd.R k44 44 w' w.heap.size (fun _ => True) v0_ r ∧ Below w.heap.size w w' := by
 have hu44 := Tryd.underlying44
 have HR0 := Aside0.mk hr0
 have HC0 := Aside0.mk hc0
 clear hr0 hc0
 have HR1 := Aside0.mk hr1
 have HC1 := Aside0.mk hc1
 clear hr1 hc1
 have HG := Aside0.mk hG
 clear hG
 have HB := Aside0.mk (Below.refl w.heap.size w)
 have H : (impl_Picked.l0 k l1 ([] : List (S44)) l0 (l0.length : Int) 0) = some r := h
 clear h
 have H' := Aside0.mk H
 clear H
 go_enter Tryd.func20, Tryd.ntmps20
 go_wp2
 go_loopg [5, 12] k (fun kq v5 v12 w' => ∃ (x5_1 : List (S44)) (x12_1 : Int), v12 = .int .i64 x12_1 ∧ Aside0 (impl_Picked.l0 kq l1 x5_1 l0 (l0.length : Int) x12_1 = some r) ∧ Aside0 (kq ≤ k) ∧ Aside0 (Kd.R k44 44 w' w.heap.size (fun _ => True) v5 x5_1) ∧ Aside0 (Below w.heap.size w w'))
 case atStart => exact ⟨(([] : List (S44))), (0), zS, H', ⟨Nat.le_refl _⟩, ⟨by first | exact Kd.R_nil _ _ _ _ _ | exact Kd.N_nil _ _ _ _ _ | exact Kd.V_nil _ _ _ _ _ | exact Kd.Q_nil _ _ _ _ _ | exact Kd.S_nil _ _ _ _ _⟩, ⟨zB⟩⟩
 case round =>
  clear H'
  try clear c1
  try clear c2
  try clear p2
  obtain ⟨x5_1, x12_1, rfl, HA, HK1, HO_5, HB⟩ := hrel
  cases gk with
  | zero => exact absurd HA.out (by simp [impl_Picked.l0])
  | succ k1 =>
   have H := HA.out
   clear HA
   simp only [impl_Picked.l0] at H
   have HC3 := Aside0.mk H
   clear H
   go_upto_if 13 with (fail)
   go_cut [] (fun wc => ∃ (kq : Nat), Aside0 (impl_Picked.j1 kq l1 x5_1 l0 (l0.length : Int) x12_1 = some r) ∧ Aside0 (kq ≤ k1) ∧ Aside0 (Kd.R k44 44 wc w.heap.size (fun _ => True) u5 x5_1) ∧ Aside0 (Below w.heap.size w wc))
   case first =>
    have H := HC3.out
    clear HC3
    by_cases c4 : x12_1 < (l0.length : Int)
    ·rw [if_pos c4] at H
     have c4b0 : decide (x12_1 < (l0.length : Int)) = true := decide_eq_true c4
     clear c4
     (first | rw [c4b0] | (simp only [i64_w, i32_w]; rw [c4b0]) | skip)
     have H' := Aside0.mk H
     clear H
     go_wp2
     go_meet
     case rel => exact ⟨_, (by first | exact H' | (subst_vars; exact H')), ⟨by have := HK1.out; first | omega | exact Nat.le_refl _⟩, ⟨by (with_reducible repeat (first | apply Kd.R_alloc | apply Kd.R_drewN | apply Kd.R_drew)); exact HO_5.out⟩, ⟨zB⟩⟩
    ·rw [if_neg c4] at H
     have c4b0 : decide (x12_1 < (l0.length : Int)) = false := decide_eq_false c4
     clear c4
     (first | rw [c4b0] | (simp only [i64_w, i32_w]; rw [c4b0]) | skip)
     obtain rfl := Option.some.inj H
     go_wp2
     go_ret
     exact ⟨_, zE, by (with_reducible repeat (first | apply Kd.R_alloc | apply Kd.R_drewN | apply Kd.R_drew)); exact HO_5.out, zB⟩
   case rest =>
    clear HC3
    try clear c1
    try clear c2
    try clear p2
    try clear c4
    try clear c4b0
    try clear p2
    obtain ⟨kq, HA, HJ2, HO_5, HB⟩ := hcut
    cases kq with
    | zero => exact absurd HA.out (by simp [impl_Picked.j1])
    | succ kj2 =>
     have H := HA.out
     clear HA
     simp only [impl_Picked.j1] at H
     by_cases c5 : 0 ≤ x12_1
     ·rw [if_pos c5] at H
      have c5b0 : decide (0 ≤ x12_1) = true := decide_eq_true c5
      clear c5
      by_cases c6 : x12_1 < (l0.length : Int)
      ·rw [if_pos c6] at H
       have c6b0 : decide (x12_1 < (l0.length : Int)) = true := decide_eq_true c6
       clear c6
       have H' := Aside0.mk H
       clear H
       have p362 : 0 ≤ (x12_1 : Int) := zD
       have q362 : x12_1 < (l0.length : Int) := zD
       obtain ⟨ad362, e362, hx362_0, hx362_1⟩ := at_T44 HR0.out x12_1 p362 q362
       cases e362
       replace hx362_0 := (HB.out.cell (World.block_lt_of_cell? w _ hx362_0)).trans hx362_0
       replace hx362_1 := (HB.out.cell (World.block_lt_of_cell? w _ hx362_1)).trans hx362_1
       replace p362 := eq_true p362
       replace q362 := eq_true q362
       go_wp2_with (first | ((with_reducible refine gate_dst (N := 7) rfl ?_); refine box_event ?hg (N := 7) ?hd (cs := #[.string (⟨#[]⟩ : ByteArray), .string (⟨#[]⟩ : ByteArray)]) (t := 44) ?hr ?_; (case hd => rfl); (case hg => rfl); (case hr => first | (go_simp; done) | (go_simp; rfl)); intro gb363 hg w7 hbox hb; have n0_ := Aside0.mk (Kd.R_below (Kd.R_elderB (by (with_reducible repeat (first | apply Kd.R_alloc | apply Kd.R_drewN | apply Kd.R_drew)); exact HO_5.out) gb363 (Nat.le_of_eq hg.symm)) hb); have n1_ := Aside0.mk (below_step (zB) hb); have n2_ := Aside0.mk (hbox); have n3_ := Aside0.mk ((by rw [hg]; exact (below_size (zB)) : w.heap.size ≤ gb363)); have n4_ := Aside0.mk ((by rw [hg]; exact (below_size (zB)) : w.heap.size ≤ gb363)); clear HO_5; clear HB; have HO_5 := n0_; have HB := n1_; have BK363 := n2_; have GW363 := n3_; have GE363 := n4_; clear n0_ n1_ n2_ n3_ n4_; clear hb hbox hg; have hcz8_0 : w7.cell? ⟨gb363, 0, none⟩ = some (.string (⟨#[]⟩ : ByteArray)) := (blk_cell BK363.out 0).trans rfl; have hcz8_1 : w7.cell? ⟨gb363, 1, none⟩ = some (.string (⟨#[]⟩ : ByteArray)) := (blk_cell BK363.out 1).trans rfl; have hfz8_0 := blk_frozen BK363.out 0; have hfz8_1 := blk_frozen BK363.out 1))
       go_loopg [5, 18] kj2 (fun kq v5 v18 w' => ∃ (x5_3 : List (S44)) (x18_3 : Int), v18 = .int .i64 x18_3 ∧ Aside0 (impl_Picked.l1 kq l1 x5_3 l0 (l0.length : Int) x12_1 l1 (l1.length : Int) x18_3 ((rd_T44 l0 x12_1).f0) ((rd_T44 l0 x12_1).f1) = some r) ∧ Aside0 (kq ≤ kj2) ∧ Aside0 (Kd.R k44 44 w' w.heap.size (fun k_ => k_ ≠ gb363) v5 x5_3) ∧ Aside0 (w'.heap[gb363]? = some (.cells #[.string ((rd_T44 l0 x12_1).f0), .string ((rd_T44 l0 x12_1).f1)] 44 (0, 0))) ∧ Aside0 (Below w.heap.size w w'))
       case atStart => exact ⟨(x5_1), (0), zS, H', ⟨Nat.le_refl _⟩, ⟨by (with_reducible repeat (first | apply Kd.R_alloc | apply Kd.R_drewN | apply Kd.R_drew)); exact Kd.R_mono (Kd.R_far (p := ⟨gb363, 1, none⟩) (Kd.R_far (p := ⟨gb363, 0, none⟩) (Kd.R_mono HO_5.out (fun k_ hk => (⟨hk, hk.2⟩ : _ ∧ k_ ≠ gb363))) (fun _ hk => hk.2) (.string ((rd_T44 l0 x12_1).f0))) (fun _ hk => hk.2) (.string ((rd_T44 l0 x12_1).f1))) (fun _ hk => hk.1.2)⟩, ⟨by (with_reducible repeat (first | refine blk_drewN ?_ _ | refine blk_drew ?_ | refine blk_alloc ?_ _)); refine blk_put (cs := #[.string ((rd_T44 l0 x12_1).f0), .string (⟨#[]⟩ : ByteArray)]) ?_ 1 _ rfl; (with_reducible repeat (first | refine blk_drewN ?_ _ | refine blk_drew ?_ | refine blk_alloc ?_ _)); refine blk_put (cs := #[.string (⟨#[]⟩ : ByteArray), .string (⟨#[]⟩ : ByteArray)]) ?_ 0 _ rfl; (with_reducible repeat (first | refine blk_drewN ?_ _ | refine blk_drew ?_ | refine blk_alloc ?_ _)); exact BK363.out⟩, ⟨by repeat (first | (with_reducible first | exact HB.out | apply below_alloc | apply pw_below_drewN | apply below_drew1 | refine below_set ?_ GE363.out) | exact HB.out)⟩⟩
       case round =>
        clear H'
        try clear c1
        try clear c2
        try clear p2
        try clear p3
        try clear q3
        try clear hx3
        try clear c4
        try clear c4b0
        try clear c5
        try clear c5b0
        try clear c6
        try clear c6b0
        try clear hcz8_0
        try clear hcz8_1
        try clear hfz8_0
        try clear hfz8_1
        try clear hx362_0
        try clear hx362_1
        try clear p2
        try clear p362
        try clear q362
        obtain ⟨x5_3, x18_3, rfl, HA, HK3, HO_5, BK363, HB⟩ := hrel
        cases gk with
        | zero => exact absurd HA.out (by simp [impl_Picked.l1])
        | succ k3 =>
         have H := HA.out
         clear HA
         simp only [impl_Picked.l1] at H
         by_cases c9 : x18_3 < (l1.length : Int)
         ·rw [if_pos c9] at H
          have c9b0 : decide (x18_3 < (l1.length : Int)) = true := decide_eq_true c9
          clear c9
          by_cases c10 : 0 ≤ x18_3
          ·rw [if_pos c10] at H
           have c10b0 : decide (0 ≤ x18_3) = true := decide_eq_true c10
           clear c10
           by_cases c11 : x18_3 < (l1.length : Int)
           ·rw [if_pos c11] at H
            have c11b0 : decide (x18_3 < (l1.length : Int)) = true := decide_eq_true c11
            clear c11
            replace H := Option.bind_eq_some_iff.mp H
            obtain ⟨t365, A120, H⟩ := H
            replace H : (if t365 = true then (if x5_3.length < 4398046511104 then (impl_Picked.l0 k3 l1 (x5_3 ++ [(⟨((rd_T44 l0 x12_1).f0), ((rd_T44 l0 x12_1).f1)⟩ : S44)]) l0 (l0.length : Int) (wrap64 (x12_1 + 1))) else (none)) else (impl_Picked.l1 k3 l1 x5_3 l0 (l0.length : Int) x12_1 l1 (l1.length : Int) (wrap64 (x18_3 + 1)) ((rd_T44 l0 x12_1).f0) ((rd_T44 l0 x12_1).f1))) = some r := H
            have A12 := Aside0.mk A120
            clear A120
            by_cases c13 : t365 = true
            ·subst c13
             have H1 : (if x5_3.length < 4398046511104 then (impl_Picked.l0 k3 l1 (x5_3 ++ [(⟨((rd_T44 l0 x12_1).f0), ((rd_T44 l0 x12_1).f1)⟩ : S44)]) l0 (l0.length : Int) (wrap64 (x12_1 + 1))) else (none)) = some r := by rw [if_pos rfl] at H; exact H
             clear H
             have H := H1
             clear H1
             by_cases c14 : x5_3.length < 4398046511104
             ·rw [if_pos c14] at H
              have LMc14 := Aside0.mk c14
              clear c14
              obtain ⟨y366, hy366⟩ : ∃ y_ : List (S44), y_ = (x5_3 ++ [(⟨((rd_T44 l0 x12_1).f0), ((rd_T44 l0 x12_1).f1)⟩ : S44)]) := ⟨_, rfl⟩
              replace H : (impl_Picked.l0 k3 l1 y366 l0 (l0.length : Int) (wrap64 (x12_1 + 1))) = some r := by first | (rw [hy366]; with_reducible exact H) | (have H2_ := (Option.bind_some _ _).symm.trans H; rw [hy366]; with_reducible exact H2_) | (have H2_ := (Option.bind_some _ _).symm.trans H; with_reducible exact H2_) | with_reducible exact H | (rw [hy366]; exact H) | exact H
              have Ny366 := Aside0.mk hy366
              clear hy366
              have H' := Aside0.mk H
              clear H
              have p364 : 0 ≤ (x18_3 : Int) := zD
              have q364 : x18_3 < (l1.length : Int) := zD
              obtain ⟨ad364, e364, hx364_0⟩ := Kd.at_string HR1.out x18_3 p364 q364
              cases e364
              replace hx364_0 := (HB.out.cell (World.block_lt_of_cell? w _ hx364_0)).trans hx364_0
              replace p364 := eq_true p364
              replace q364 := eq_true q364
              have hcz15_0 : wr.cell? ⟨gb363, 0, none⟩ = some (.string ((rd_T44 l0 x12_1).f0)) := (blk_cell BK363.out 0).trans rfl
              have hcz15_1 : wr.cell? ⟨gb363, 1, none⟩ = some (.string ((rd_T44 l0 x12_1).f1)) := (blk_cell BK363.out 1).trans rfl
              have hfz15_0 := blk_frozen BK363.out 0
              have hfz15_1 := blk_frozen BK363.out 1
              go_wp2_with (first | ((with_reducible refine gate_callee (f := 21) rfl ?_); refine goesL_ (some 25) rfl rfl Tryd.func21 (by kernel_rfl) rfl #[.string (rdOf ByteArray.empty l1 x18_3), .string ((rd_T44 l0 x12_1).f0)] rfl zM ?_; (with_reducible refine (impl_Matches.calls k3 (rdOf ByteArray.empty l1 x18_3) ((rd_T44 l0 x12_1).f0) true _ ?side1 A12.out).mono ?_); (case side1 => exact GW.below HG.out (by repeat (first | (with_reducible first | exact HB.out | apply below_alloc | apply pw_below_drewN | apply below_drew1 | refine below_set ?_ GE363.out) | exact HB.out))); rintro e w16 ⟨rfl, hb⟩; refine ⟨_, rfl, ?_⟩; have n0_ := Aside0.mk (Kd.R_below (by (with_reducible repeat (first | apply Kd.R_alloc | apply Kd.R_drewN | apply Kd.R_drew)); exact HO_5.out) hb); have n1_ := Aside0.mk (blk_below (g := gb363) (o := .cells #[.string ((rd_T44 l0 x12_1).f0), .string ((rd_T44 l0 x12_1).f1)] 44 (0, 0)) (by (with_reducible repeat (first | refine blk_drewN ?_ _ | refine blk_drew ?_ | refine blk_alloc ?_ _)); exact BK363.out) hb); have n2_ := Aside0.mk (below_step (by repeat (first | (with_reducible first | exact HB.out | apply below_alloc | apply pw_below_drewN | apply below_drew1 | refine below_set ?_ GE363.out) | exact HB.out)) hb); clear HO_5; clear BK363; clear HB; have HO_5 := n0_; have BK363 := n1_; have HB := n2_; clear n0_ n1_ n2_; (try clear hb); (try clear hb2); (try clear hk); (try clear hi); have hcz17_0 : w16.cell? ⟨gb363, 0, none⟩ = some (.string ((rd_T44 l0 x12_1).f0)) := (blk_cell BK363.out 0).trans rfl; have hcz17_1 : w16.cell? ⟨gb363, 1, none⟩ = some (.string ((rd_T44 l0 x12_1).f1)) := (blk_cell BK363.out 1).trans rfl; have hfz17_0 := blk_frozen BK363.out 0; have hfz17_1 := blk_frozen BK363.out 1) | ((with_reducible refine gate_builtin (b := .append) (xs := #[.tmp 26, .tmp 28]) rfl ?_); at_builtin; refine Kd.R_append k44 (w0 := w) w.heap.size rfl (.tmp 26) (.tmp 28) 38 44 (.agg #[(.string ⟨#[]⟩), (.string ⟨#[]⟩)]) 32 rfl Tryd.underlying38 info44 rfl (by decide) (by omega) u5 x5_3 (⟨((rd_T44 l0 x12_1).f0), ((rd_T44 l0 x12_1).f1)⟩ : S44) [.string ((rd_T44 l0 x12_1).f0), .string ((rd_T44 l0 x12_1).f1)] (fun k_ => k_ ≠ gb363) (fun _ => False) rfl rfl ?aP (fun _ hk => hk.elim) ?aF ?aO ?aB ?aS ?aL ?_; (case aP => exact k44_mkM _ _ _ (⟨((rd_T44 l0 x12_1).f0), ((rd_T44 l0 x12_1).f1)⟩ : S44)); (case aB => exact (by repeat (first | (with_reducible first | exact HB.out | apply below_alloc | apply pw_below_drewN | apply below_drew1 | refine below_set ?_ GE363.out) | exact HB.out))); (case aF => exact (fun k_ hk => Kd.freshB (g := gb363) (o := .cells #[.string ((rd_T44 l0 x12_1).f0), .string ((rd_T44 l0 x12_1).f1)] 44 (0, 0)) (by (with_reducible repeat (first | refine blk_drewN ?_ _ | refine blk_drew ?_ | refine blk_alloc ?_ _)); exact BK363.out) k_ hk)); (case aO => exact (by (with_reducible repeat (first | apply Kd.R_alloc | apply Kd.R_drewN | apply Kd.R_drew)); exact HO_5.out)); (case aS => exact (below_size (by repeat (first | (with_reducible first | exact HB.out | apply below_alloc | apply pw_below_drewN | apply below_drew1 | refine below_set ?_ GE363.out) | exact HB.out)))); (case aL => have := LMc14.out; omega); intro v367 w18 ho hb hg hat; rw [← Ny366.out] at ho; have n0_ := Aside0.mk (blk_grown (g := gb363) (o := .cells #[.string ((rd_T44 l0 x12_1).f0), .string ((rd_T44 l0 x12_1).f1)] 44 (0, 0)) (by (with_reducible repeat (first | refine blk_drewN ?_ _ | refine blk_drew ?_ | refine blk_alloc ?_ _)); exact BK363.out) hg (Kd.R_away HO_5.out (fun _ hk => hk))); have n1_ := Aside0.mk (hb); have n2_ := Aside0.mk (ho); clear BK363; clear HB; clear HO_5; have BK363 := n0_; have HB := n1_; have HO368 := n2_; clear n0_ n1_ n2_; clear ho hb hg hat))
              go_roundg k3
              case measure => have := HK1.out; have := HJ2.out; have := HK3.out; omega
              case rel => exact ⟨(y366), (wrap64 (x12_1 + 1)), zS, H', ⟨by have := HK1.out; have := HJ2.out; have := HK3.out; omega⟩, ⟨by (with_reducible repeat (first | apply Kd.R_alloc | apply Kd.R_drewN | apply Kd.R_drew)); exact Kd.R_mono HO368.out (fun _ hk => trivial)⟩, ⟨by repeat (first | (with_reducible first | exact HB.out | apply below_alloc | apply pw_below_drewN | apply below_drew1 | refine below_set ?_ GE363.out) | exact HB.out)⟩⟩
             ·rw [if_neg c14] at H
              exact absurd H (by simp)
            ·replace c13 := Bool.eq_false_iff.mpr c13
             subst c13
             have H1 : (impl_Picked.l1 k3 l1 x5_3 l0 (l0.length : Int) x12_1 l1 (l1.length : Int) (wrap64 (x18_3 + 1)) ((rd_T44 l0 x12_1).f0) ((rd_T44 l0 x12_1).f1)) = some r := by rw [if_neg (show ¬ (false = true) by decide)] at H; exact H
             clear H
             have H := H1
             clear H1
             have H' := Aside0.mk H
             clear H
             have p364 : 0 ≤ (x18_3 : Int) := zD
             have q364 : x18_3 < (l1.length : Int) := zD
             obtain ⟨ad364, e364, hx364_0⟩ := Kd.at_string HR1.out x18_3 p364 q364
             cases e364
             replace hx364_0 := (HB.out.cell (World.block_lt_of_cell? w _ hx364_0)).trans hx364_0
             replace p364 := eq_true p364
             replace q364 := eq_true q364
             have hcz19_0 : wr.cell? ⟨gb363, 0, none⟩ = some (.string ((rd_T44 l0 x12_1).f0)) := (blk_cell BK363.out 0).trans rfl
             have hcz19_1 : wr.cell? ⟨gb363, 1, none⟩ = some (.string ((rd_T44 l0 x12_1).f1)) := (blk_cell BK363.out 1).trans rfl
             have hfz19_0 := blk_frozen BK363.out 0
             have hfz19_1 := blk_frozen BK363.out 1
             go_wp2_with (first | ((with_reducible refine gate_callee (f := 21) rfl ?_); refine goesL_ (some 25) rfl rfl Tryd.func21 (by kernel_rfl) rfl #[.string (rdOf ByteArray.empty l1 x18_3), .string ((rd_T44 l0 x12_1).f0)] rfl zM ?_; (with_reducible refine (impl_Matches.calls k3 (rdOf ByteArray.empty l1 x18_3) ((rd_T44 l0 x12_1).f0) false _ ?side1 A12.out).mono ?_); (case side1 => exact GW.below HG.out (by repeat (first | (with_reducible first | exact HB.out | apply below_alloc | apply pw_below_drewN | apply below_drew1 | refine below_set ?_ GE363.out) | exact HB.out))); rintro e w20 ⟨rfl, hb⟩; refine ⟨_, rfl, ?_⟩; have n0_ := Aside0.mk (Kd.R_below (by (with_reducible repeat (first | apply Kd.R_alloc | apply Kd.R_drewN | apply Kd.R_drew)); exact HO_5.out) hb); have n1_ := Aside0.mk (blk_below (g := gb363) (o := .cells #[.string ((rd_T44 l0 x12_1).f0), .string ((rd_T44 l0 x12_1).f1)] 44 (0, 0)) (by (with_reducible repeat (first | refine blk_drewN ?_ _ | refine blk_drew ?_ | refine blk_alloc ?_ _)); exact BK363.out) hb); have n2_ := Aside0.mk (below_step (by repeat (first | (with_reducible first | exact HB.out | apply below_alloc | apply pw_below_drewN | apply below_drew1 | refine below_set ?_ GE363.out) | exact HB.out)) hb); clear HO_5; clear BK363; clear HB; have HO_5 := n0_; have BK363 := n1_; have HB := n2_; clear n0_ n1_ n2_; (try clear hb); (try clear hb2); (try clear hk); (try clear hi)))
             go_roundg k3
             case measure => have := HK1.out; have := HJ2.out; have := HK3.out; omega
             case rel => exact ⟨(x5_3), (wrap64 (x18_3 + 1)), zS, H', ⟨by have := HK1.out; have := HJ2.out; have := HK3.out; omega⟩, ⟨by (with_reducible repeat (first | apply Kd.R_alloc | apply Kd.R_drewN | apply Kd.R_drew)); exact HO_5.out⟩, ⟨by (with_reducible repeat (first | refine blk_drewN ?_ _ | refine blk_drew ?_ | refine blk_alloc ?_ _)); exact BK363.out⟩, ⟨by repeat (first | (with_reducible first | exact HB.out | apply below_alloc | apply pw_below_drewN | apply below_drew1 | refine below_set ?_ GE363.out) | exact HB.out)⟩⟩
           ·rw [if_neg c11] at H
            exact absurd H (by simp)
          ·rw [if_neg c10] at H
           exact absurd H (by simp)
         ·rw [if_neg c9] at H
          have c9b0 : decide (x18_3 < (l1.length : Int)) = false := decide_eq_false c9
          clear c9
          have H' := Aside0.mk H
          clear H
          go_wp2
          go_roundg k3
          case measure => have := HK1.out; have := HJ2.out; have := HK3.out; omega
          case rel => exact ⟨(x5_3), (wrap64 (x12_1 + 1)), zS, H', ⟨by have := HK1.out; have := HJ2.out; have := HK3.out; omega⟩, ⟨by (with_reducible repeat (first | apply Kd.R_alloc | apply Kd.R_drewN | apply Kd.R_drew)); exact Kd.R_mono HO_5.out (fun _ hk => trivial)⟩, ⟨by repeat (first | (with_reducible first | exact HB.out | apply below_alloc | apply pw_below_drewN | apply below_drew1 | refine below_set ?_ GE363.out) | exact HB.out)⟩⟩
      ·rw [if_neg c6] at H
       exact absurd H (by simp)
     ·rw [if_neg c5] at H
      exact absurd H (by simp)
/-! ### spec_l6Class: function 82 -/
mutual
def spec_l6Class.j0 : Nat → ByteArray → Int → Bool → Option (Int)
 | 0, _, _, _ => none
 | k + 1, x0, x5, x18 => if x18 = true then (spec_l6Class.j1 k x0 (wrap64 (x5 + 1))) else (spec_l6Class.j1 k x0 x5)
def spec_l6Class.j1 : Nat → ByteArray → Int → Option (Int)
 | 0, _, _ => none
 | k + 1, x0, x5 => spec_l6Class.l0 k x0 x5 0
def spec_l6Class.l0 : Nat → ByteArray → Int → Int → Option (Int)
 | 0, _, _, _ => none
 | k + 1, x0, x5, x6 => if x5 < (x0.size : Int) then (if 0 ≤ x5 then ((spec_l1Small.f (bt x0 x5)).bind fun t369 => (if t369 = true then (spec_l6Class.l0 k x0 (wrap64 (x5 + 1)) (wrap64 (x6 + 1))) else ((spec_l1Digit.f (bt x0 x5)).bind fun t370 => (if t370 = true then (spec_l6Class.l0 k x0 (wrap64 (x5 + 1)) (wrap64 (x6 + 1))) else ((spec_l1In.f x6 1 5).bind fun t371 => (if t371 = true then (if x5 ≥ (x0.size : Int) then (some (-1)) else (if (bt x0 x5) = 93 then (some (wrap64 (x5 + 1))) else (some (-1)))) else (some (-1)))))))) else (none)) else ((spec_l1In.f x6 1 5).bind fun t372 => (if t372 = true then (if x5 ≥ (x0.size : Int) then (some (-1)) else (if 0 ≤ x5 then (none) else (none))) else (some (-1))))
end
def spec_l6Class.f (k : Nat) (a0 : ByteArray) (a1 : Int) : Option (Int) := if (wrap64 (a1 + 1)) < (a0.size : Int) then (if 0 ≤ (wrap64 (a1 + 1)) then (spec_l6Class.j0 k a0 (wrap64 (a1 + 1)) ((bt a0 (wrap64 (a1 + 1))) == 33)) else (none)) else (spec_l6Class.j0 k a0 (wrap64 (a1 + 1)) false)
theorem spec_l6Class.calls (k : Nat) (a0 : ByteArray) (a1 : Int) (r : Int) (w : World) (h : spec_l6Class.f k a0 a1 = some r) :
  Calls Tryd.prog 82 #[.string a0, .int .i64 a1] w fun e w' => e = .returned (.int .i64 r) ∧ Drawn0 w w' := by
 have H : (if (wrap64 (a1 + 1)) < (a0.size : Int) then (if 0 ≤ (wrap64 (a1 + 1)) then (spec_l6Class.j0 k a0 (wrap64 (a1 + 1)) ((bt a0 (wrap64 (a1 + 1))) == 33)) else (none)) else (spec_l6Class.j0 k a0 (wrap64 (a1 + 1)) false)) = some r := h
 clear h
 have HC3 := Aside0.mk H
 clear H
 go_enter Tryd.func82, Tryd.ntmps82
 go_upto_region 2 with (fail)
 go_cut [18] (fun v18 wc => ∃ (kq : Nat) (x18_2 : Bool), v18 = .bool x18_2 ∧ Aside0 (spec_l6Class.j0 kq a0 (wrap64 (a1 + 1)) x18_2 = some r) ∧ Aside0 (kq ≤ k) ∧ Drawn0 w wc)
 case first =>
  have H := HC3.out
  clear HC3
  by_cases c4 : (wrap64 (a1 + 1)) < (a0.size : Int)
  ·rw [if_pos c4] at H
   have c4b0 : decide ((wrap64 (a1 + 1)) < (a0.size : Int)) = true := decide_eq_true c4
   clear c4
   (first | rw [c4b0] | (simp only [i64_w, i32_w]; rw [c4b0]) | skip)
   obtain ⟨ji5, hji5⟩ : ∃ j_ : Int, (wrap64 (a1 + 1)) = j_ := ⟨_, rfl⟩
   replace H : (if 0 ≤ (ji5) then (spec_l6Class.j0 k a0 ji5 ((bt a0 (ji5)) == 33)) else (none)) = some r := by first | (rw [hji5] at H; exact H) | (simp only [hji5] at H ⊢; exact H)
   (try rw [hji5] at c4b0)
   have hji5w : (IntKind.i64.wrap (a1 + 1)) = ji5 := (i64_w _).trans hji5
   by_cases c6 : 0 ≤ (ji5)
   ·rw [if_pos c6] at H
    have c6b0 : decide (0 ≤ (ji5)) = true := decide_eq_true c6
    clear c6
    have H' := Aside0.mk H
    clear H
    have p7 : 0 ≤ ((ji5) : Int) := zD
    have q7 : (ji5) < (a0.size : Int) := zD
    have hx7 := bt_at a0 (ji5)
    replace p7 := eq_true p7
    replace q7 := eq_true q7
    go_wp2
    go_meet
    case rel => exact ⟨_, (((bt a0 (ji5)) == 33)), (by first | rfl | (simp; done) | (simp only [← hji5] <;> (first | rfl | simp)) | (simp [*]; done)), (by first | exact H' | (subst_vars; exact H')), ⟨by first | omega | exact Nat.le_refl _⟩, by repeat (first | exact Drawn0.refl _ | apply Drawn0.step)⟩
   ·rw [if_neg c6] at H
    exact absurd H (by simp)
  ·rw [if_neg c4] at H
   have c4b0 : decide ((wrap64 (a1 + 1)) < (a0.size : Int)) = false := decide_eq_false c4
   clear c4
   (first | rw [c4b0] | (simp only [i64_w, i32_w]; rw [c4b0]) | skip)
   have H' := Aside0.mk H
   clear H
   go_wp2
   go_meet
   case rel => exact ⟨_, (false), zS, (by first | exact H' | (subst_vars; exact H')), ⟨by first | omega | exact Nat.le_refl _⟩, by repeat (first | exact Drawn0.refl _ | apply Drawn0.step)⟩
 case rest =>
  clear HC3
  try clear p2
  try clear c4
  try clear c4b0
  try clear c6
  try clear c6b0
  try clear p6
  try clear p7
  try clear q7
  try clear hx7
  try clear p7
  try clear q7
  obtain ⟨kq, x18_2, rfl, HA, HJ2, ⟨mc2, rfl⟩⟩ := hcut
  cases kq with
  | zero => exact absurd HA.out (by simp [spec_l6Class.j0])
  | succ kj2 =>
   have H := HA.out
   clear HA
   simp only [spec_l6Class.j0] at H
   have HC8 := Aside0.mk H
   clear H
   go_upto_if 18 with (fail)
   go_cut [5] (fun v5 wc => ∃ (kq : Nat) (x5_7 : Int), v5 = .int .i64 x5_7 ∧ Aside0 (spec_l6Class.j1 kq a0 x5_7 = some r) ∧ Aside0 (kq ≤ kj2) ∧ Drawn0 w wc)
   case first =>
    have H := HC8.out
    clear HC8
    by_cases c9 : x18_2 = true
    ·subst c9
     have H1 : (spec_l6Class.j1 kj2 a0 (wrap64 ((wrap64 (a1 + 1)) + 1))) = some r := by rw [if_pos rfl] at H; exact H
     clear H
     have H := H1
     clear H1
     have H' := Aside0.mk H
     clear H
     go_wp2
     go_meet
     case rel => exact ⟨_, (wrap64 ((wrap64 (a1 + 1)) + 1)), zS, (by first | exact H' | (subst_vars; exact H')), ⟨by have := HJ2.out; first | omega | exact Nat.le_refl _⟩, by repeat (first | exact Drawn0.refl _ | apply Drawn0.step)⟩
    ·replace c9 := Bool.eq_false_iff.mpr c9
     subst c9
     have H1 : (spec_l6Class.j1 kj2 a0 (wrap64 (a1 + 1))) = some r := by rw [if_neg (show ¬ (false = true) by decide)] at H; exact H
     clear H
     have H := H1
     clear H1
     have H' := Aside0.mk H
     clear H
     go_wp2
     go_meet
     case rel => exact ⟨_, ((wrap64 (a1 + 1))), zS, (by first | exact H' | (subst_vars; exact H')), ⟨by have := HJ2.out; first | omega | exact Nat.le_refl _⟩, by repeat (first | exact Drawn0.refl _ | apply Drawn0.step)⟩
   case rest =>
    clear HC8
    try clear c2
    try clear p2
    try clear c4
    try clear c4b0
    try clear c6
    try clear c6b0
    try clear p6
    try clear p7
    try clear q7
    try clear hx7
    try clear c8
    try clear c9
    try clear p2
    try clear p6
    try clear p7
    try clear q7
    obtain ⟨kq, x5_7, rfl, HA, HJ7, ⟨mc7, rfl⟩⟩ := hcut
    cases kq with
    | zero => exact absurd HA.out (by simp [spec_l6Class.j1])
    | succ kj7 =>
     have H := HA.out
     clear HA
     simp only [spec_l6Class.j1] at H
     have H' := Aside0.mk H
     clear H
     go_wp2
     go_loopg [5, 6] kj7 (fun kq v5 v6 w' => ∃ (x5_3 : Int) (x6_3 : Int), v5 = .int .i64 x5_3 ∧ v6 = .int .i64 x6_3 ∧ Aside0 (spec_l6Class.l0 kq a0 x5_3 x6_3 = some r) ∧ Aside0 (kq ≤ kj7) ∧ Drawn0 w w')
     case atStart => exact ⟨(x5_7), (0), zS, zS, H', ⟨Nat.le_refl _⟩, by repeat (first | exact Drawn0.refl _ | apply Drawn0.step)⟩
     case round =>
      clear H'
      try clear c2
      try clear p2
      try clear c4
      try clear c4b0
      try clear c6
      try clear c6b0
      try clear p6
      try clear c7
      try clear p7
      try clear q7
      try clear hx7
      try clear c8
      try clear c9
      try clear p2
      try clear p6
      try clear p7
      try clear q7
      obtain ⟨x5_3, x6_3, rfl, rfl, HA, HK3, ⟨m3, rfl⟩⟩ := hrel
      cases gk with
      | zero => exact absurd HA.out (by simp [spec_l6Class.l0])
      | succ k3 =>
       have H := HA.out
       clear HA
       simp only [spec_l6Class.l0] at H
       by_cases c10 : x5_3 < (a0.size : Int)
       ·rw [if_pos c10] at H
        have c10b0 : decide (x5_3 < (a0.size : Int)) = true := decide_eq_true c10
        clear c10
        by_cases c11 : 0 ≤ x5_3
        ·rw [if_pos c11] at H
         have c11b0 : decide (0 ≤ x5_3) = true := decide_eq_true c11
         clear c11
         replace H := Option.bind_eq_some_iff.mp H
         obtain ⟨t369, A130, H⟩ := H
         replace H : (if t369 = true then (spec_l6Class.l0 k3 a0 (wrap64 (x5_3 + 1)) (wrap64 (x6_3 + 1))) else ((spec_l1Digit.f (bt a0 x5_3)).bind fun t370 => (if t370 = true then (spec_l6Class.l0 k3 a0 (wrap64 (x5_3 + 1)) (wrap64 (x6_3 + 1))) else ((spec_l1In.f x6_3 1 5).bind fun t371 => (if t371 = true then (if x5_3 ≥ (a0.size : Int) then (some (-1)) else (if (bt a0 x5_3) = 93 then (some (wrap64 (x5_3 + 1))) else (some (-1)))) else (some (-1))))))) = some r := H
         have A13 := Aside0.mk A130
         clear A130
         by_cases c14 : t369 = true
         ·subst c14
          have H1 : (spec_l6Class.l0 k3 a0 (wrap64 (x5_3 + 1)) (wrap64 (x6_3 + 1))) = some r := by rw [if_pos rfl] at H; exact H
          clear H
          have H := H1
          clear H1
          have H' := Aside0.mk H
          clear H
          have p12 : 0 ≤ (x5_3 : Int) := zD
          have q12 : x5_3 < (a0.size : Int) := zD
          have hx12 := bt_at a0 x5_3
          replace p12 := eq_true p12
          replace q12 := eq_true q12
          go_wp2_with (first | (go_at_call 74; (with_reducible refine (spec_l1Small.calls (bt a0 x5_3) true _ A13.out).mono ?_); rintro e w' ⟨rfl, ⟨nd, rfl⟩⟩))
          go_roundg k3
          case measure => have := HJ2.out; have := HJ7.out; have := HK3.out; omega
          case rel => exact ⟨(wrap64 (x5_3 + 1)), (wrap64 (x6_3 + 1)), zS, zS, H', ⟨by have := HJ2.out; have := HJ7.out; have := HK3.out; omega⟩, by repeat (first | exact Drawn0.refl _ | apply Drawn0.step)⟩
         ·replace c14 := Bool.eq_false_iff.mpr c14
          subst c14
          have H1 : ((spec_l1Digit.f (bt a0 x5_3)).bind fun t370 => (if t370 = true then (spec_l6Class.l0 k3 a0 (wrap64 (x5_3 + 1)) (wrap64 (x6_3 + 1))) else ((spec_l1In.f x6_3 1 5).bind fun t371 => (if t371 = true then (if x5_3 ≥ (a0.size : Int) then (some (-1)) else (if (bt a0 x5_3) = 93 then (some (wrap64 (x5_3 + 1))) else (some (-1)))) else (some (-1)))))) = some r := by rw [if_neg (show ¬ (false = true) by decide)] at H; exact H
          clear H
          have H := H1
          clear H1
          replace H := Option.bind_eq_some_iff.mp H
          obtain ⟨t370, A160, H⟩ := H
          replace H : (if t370 = true then (spec_l6Class.l0 k3 a0 (wrap64 (x5_3 + 1)) (wrap64 (x6_3 + 1))) else ((spec_l1In.f x6_3 1 5).bind fun t371 => (if t371 = true then (if x5_3 ≥ (a0.size : Int) then (some (-1)) else (if (bt a0 x5_3) = 93 then (some (wrap64 (x5_3 + 1))) else (some (-1)))) else (some (-1))))) = some r := H
          have A16 := Aside0.mk A160
          clear A160
          by_cases c17 : t370 = true
          ·subst c17
           have H1 : (spec_l6Class.l0 k3 a0 (wrap64 (x5_3 + 1)) (wrap64 (x6_3 + 1))) = some r := by rw [if_pos rfl] at H; exact H
           clear H
           have H := H1
           clear H1
           have H' := Aside0.mk H
           clear H
           have p12 : 0 ≤ (x5_3 : Int) := zD
           have q12 : x5_3 < (a0.size : Int) := zD
           have hx12 := bt_at a0 x5_3
           replace p12 := eq_true p12
           replace q12 := eq_true q12
           go_wp2_with (first | (go_at_call 74; (with_reducible refine (spec_l1Small.calls (bt a0 x5_3) false _ A13.out).mono ?_); rintro e w' ⟨rfl, ⟨nd, rfl⟩⟩; have p15 : 0 ≤ (x5_3 : Int) := zD; have q15 : x5_3 < (a0.size : Int) := zD; have hx15 := bt_at a0 x5_3; replace p15 := eq_true p15; replace q15 := eq_true q15) | (go_at_call 67; (with_reducible refine (spec_l1Digit.calls (bt a0 x5_3) true _ A16.out).mono ?_); rintro e w' ⟨rfl, ⟨nd, rfl⟩⟩))
           go_roundg k3
           case measure => have := HJ2.out; have := HJ7.out; have := HK3.out; omega
           case rel => exact ⟨(wrap64 (x5_3 + 1)), (wrap64 (x6_3 + 1)), zS, zS, H', ⟨by have := HJ2.out; have := HJ7.out; have := HK3.out; omega⟩, by repeat (first | exact Drawn0.refl _ | apply Drawn0.step)⟩
          ·replace c17 := Bool.eq_false_iff.mpr c17
           subst c17
           have H1 : ((spec_l1In.f x6_3 1 5).bind fun t371 => (if t371 = true then (if x5_3 ≥ (a0.size : Int) then (some (-1)) else (if (bt a0 x5_3) = 93 then (some (wrap64 (x5_3 + 1))) else (some (-1)))) else (some (-1)))) = some r := by rw [if_neg (show ¬ (false = true) by decide)] at H; exact H
           clear H
           have H := H1
           clear H1
           replace H := Option.bind_eq_some_iff.mp H
           obtain ⟨t371, A180, H⟩ := H
           replace H : (if t371 = true then (if x5_3 ≥ (a0.size : Int) then (some (-1)) else (if (bt a0 x5_3) = 93 then (some (wrap64 (x5_3 + 1))) else (some (-1)))) else (some (-1))) = some r := H
           have A18 := Aside0.mk A180
           clear A180
           by_cases c19 : t371 = true
           ·subst c19
            have H1 : (if x5_3 ≥ (a0.size : Int) then (some (-1)) else (if (bt a0 x5_3) = 93 then (some (wrap64 (x5_3 + 1))) else (some (-1)))) = some r := by rw [if_pos rfl] at H; exact H
            clear H
            have H := H1
            clear H1
            by_cases c20 : x5_3 ≥ (a0.size : Int)
            ·rw [if_pos c20] at H
             have c20b0 : decide ((a0.size : Int) ≤ x5_3) = true := decide_eq_true c20
             clear c20
             obtain rfl := Option.some.inj H
             have p12 : 0 ≤ (x5_3 : Int) := zD
             have q12 : x5_3 < (a0.size : Int) := zD
             have hx12 := bt_at a0 x5_3
             replace p12 := eq_true p12
             replace q12 := eq_true q12
             go_wp2_with (first | (go_at_call 74; (with_reducible refine (spec_l1Small.calls (bt a0 x5_3) false _ A13.out).mono ?_); rintro e w' ⟨rfl, ⟨nd, rfl⟩⟩; have p15 : 0 ≤ (x5_3 : Int) := zD; have q15 : x5_3 < (a0.size : Int) := zD; have hx15 := bt_at a0 x5_3; replace p15 := eq_true p15; replace q15 := eq_true q15) | (go_at_call 67; (with_reducible refine (spec_l1Digit.calls (bt a0 x5_3) false _ A16.out).mono ?_); rintro e w' ⟨rfl, ⟨nd, rfl⟩⟩) | ((with_reducible refine gate_callee (f := 44) rfl ?_); refine goesL_ (some 42) rfl rfl Tryd.func44 (by kernel_rfl) rfl #[.int .i64 x6_3, .int .i64 1, .int .i64 5] rfl zM ?_; (with_reducible refine (spec_l1In.calls x6_3 1 5 true _ A18.out).mono ?_); rintro e w' ⟨rfl, ⟨nd, rfl⟩⟩; refine ⟨_, rfl, ?_⟩))
             go_ret
             exact ⟨by first | rfl | (simp; done) | (simp [*]; done) | (simp; rw [Bool.eq_iff_iff]; simp; done), by repeat (first | exact Drawn0.refl _ | apply Drawn0.step)⟩
            ·rw [if_neg c20] at H
             have c20b0 : decide ((a0.size : Int) ≤ x5_3) = false := decide_eq_false c20
             clear c20
             by_cases c22 : (bt a0 x5_3) = 93
             ·rw [if_pos c22] at H
              have c22b0 : ((bt a0 x5_3) == 93) = true := beq_iff_eq.mpr c22
              have c22b1 : ((bt a0 x5_3) != 93) = false := bne_eq_false_iff_eq.mpr c22
              clear c22
              obtain rfl := Option.some.inj H
              have p12 : 0 ≤ (x5_3 : Int) := zD
              have q12 : x5_3 < (a0.size : Int) := zD
              have hx12 := bt_at a0 x5_3
              replace p12 := eq_true p12
              replace q12 := eq_true q12
              go_wp2_with (first | (go_at_call 74; (with_reducible refine (spec_l1Small.calls (bt a0 x5_3) false _ A13.out).mono ?_); rintro e w' ⟨rfl, ⟨nd, rfl⟩⟩; have p15 : 0 ≤ (x5_3 : Int) := zD; have q15 : x5_3 < (a0.size : Int) := zD; have hx15 := bt_at a0 x5_3; replace p15 := eq_true p15; replace q15 := eq_true q15) | (go_at_call 67; (with_reducible refine (spec_l1Digit.calls (bt a0 x5_3) false _ A16.out).mono ?_); rintro e w' ⟨rfl, ⟨nd, rfl⟩⟩) | ((with_reducible refine gate_callee (f := 44) rfl ?_); refine goesL_ (some 42) rfl rfl Tryd.func44 (by kernel_rfl) rfl #[.int .i64 x6_3, .int .i64 1, .int .i64 5] rfl zM ?_; (with_reducible refine (spec_l1In.calls x6_3 1 5 true _ A18.out).mono ?_); rintro e w' ⟨rfl, ⟨nd, rfl⟩⟩; refine ⟨_, rfl, ?_⟩; have p21 : 0 ≤ (x5_3 : Int) := zD; have q21 : x5_3 < (a0.size : Int) := zD; have hx21 := bt_at a0 x5_3; replace p21 := eq_true p21; replace q21 := eq_true q21))
              go_ret
              exact ⟨by first | rfl | (simp; done) | (simp [*]; done) | (simp; rw [Bool.eq_iff_iff]; simp; done), by repeat (first | exact Drawn0.refl _ | apply Drawn0.step)⟩
             ·rw [if_neg c22] at H
              have c22b0 : ((bt a0 x5_3) == 93) = false := beq_eq_false_iff_ne.mpr c22
              have c22b1 : ((bt a0 x5_3) != 93) = true := bne_iff_ne.mpr c22
              obtain rfl := Option.some.inj H
              have p12 : 0 ≤ (x5_3 : Int) := zD
              have q12 : x5_3 < (a0.size : Int) := zD
              have hx12 := bt_at a0 x5_3
              replace p12 := eq_true p12
              replace q12 := eq_true q12
              go_wp2_with (first | (go_at_call 74; (with_reducible refine (spec_l1Small.calls (bt a0 x5_3) false _ A13.out).mono ?_); rintro e w' ⟨rfl, ⟨nd, rfl⟩⟩; have p15 : 0 ≤ (x5_3 : Int) := zD; have q15 : x5_3 < (a0.size : Int) := zD; have hx15 := bt_at a0 x5_3; replace p15 := eq_true p15; replace q15 := eq_true q15) | (go_at_call 67; (with_reducible refine (spec_l1Digit.calls (bt a0 x5_3) false _ A16.out).mono ?_); rintro e w' ⟨rfl, ⟨nd, rfl⟩⟩) | ((with_reducible refine gate_callee (f := 44) rfl ?_); refine goesL_ (some 42) rfl rfl Tryd.func44 (by kernel_rfl) rfl #[.int .i64 x6_3, .int .i64 1, .int .i64 5] rfl zM ?_; (with_reducible refine (spec_l1In.calls x6_3 1 5 true _ A18.out).mono ?_); rintro e w' ⟨rfl, ⟨nd, rfl⟩⟩; refine ⟨_, rfl, ?_⟩; have p21 : 0 ≤ (x5_3 : Int) := zD; have q21 : x5_3 < (a0.size : Int) := zD; have hx21 := bt_at a0 x5_3; replace p21 := eq_true p21; replace q21 := eq_true q21))
              go_ret
              exact ⟨by first | rfl | (simp; done) | (simp [*]; done) | (simp; rw [Bool.eq_iff_iff]; simp; done), by repeat (first | exact Drawn0.refl _ | apply Drawn0.step)⟩
           ·replace c19 := Bool.eq_false_iff.mpr c19
            subst c19
            have H1 : (some (-1)) = some r := by rw [if_neg (show ¬ (false = true) by decide)] at H; exact H
            clear H
            have H := H1
            clear H1
            obtain rfl := Option.some.inj H
            have p12 : 0 ≤ (x5_3 : Int) := zD
            have q12 : x5_3 < (a0.size : Int) := zD
            have hx12 := bt_at a0 x5_3
            replace p12 := eq_true p12
            replace q12 := eq_true q12
            go_wp2_with (first | (go_at_call 74; (with_reducible refine (spec_l1Small.calls (bt a0 x5_3) false _ A13.out).mono ?_); rintro e w' ⟨rfl, ⟨nd, rfl⟩⟩; have p15 : 0 ≤ (x5_3 : Int) := zD; have q15 : x5_3 < (a0.size : Int) := zD; have hx15 := bt_at a0 x5_3; replace p15 := eq_true p15; replace q15 := eq_true q15) | (go_at_call 67; (with_reducible refine (spec_l1Digit.calls (bt a0 x5_3) false _ A16.out).mono ?_); rintro e w' ⟨rfl, ⟨nd, rfl⟩⟩) | ((with_reducible refine gate_callee (f := 44) rfl ?_); refine goesL_ (some 42) rfl rfl Tryd.func44 (by kernel_rfl) rfl #[.int .i64 x6_3, .int .i64 1, .int .i64 5] rfl zM ?_; (with_reducible refine (spec_l1In.calls x6_3 1 5 false _ A18.out).mono ?_); rintro e w' ⟨rfl, ⟨nd, rfl⟩⟩; refine ⟨_, rfl, ?_⟩))
            go_ret
            exact ⟨by first | rfl | (simp; done) | (simp [*]; done) | (simp; rw [Bool.eq_iff_iff]; simp; done), by repeat (first | exact Drawn0.refl _ | apply Drawn0.step)⟩
        ·rw [if_neg c11] at H
         exact absurd H (by simp)
       ·rw [if_neg c10] at H
        have c10b0 : decide (x5_3 < (a0.size : Int)) = false := decide_eq_false c10
        clear c10
        replace H := Option.bind_eq_some_iff.mp H
        obtain ⟨t372, A230, H⟩ := H
        replace H : (if t372 = true then (if x5_3 ≥ (a0.size : Int) then (some (-1)) else (if 0 ≤ x5_3 then (none) else (none))) else (some (-1))) = some r := H
        have A23 := Aside0.mk A230
        clear A230
        by_cases c24 : t372 = true
        ·subst c24
         have H1 : (if x5_3 ≥ (a0.size : Int) then (some (-1)) else (if 0 ≤ x5_3 then (none) else (none))) = some r := by rw [if_pos rfl] at H; exact H
         clear H
         have H := H1
         clear H1
         by_cases c25 : x5_3 ≥ (a0.size : Int)
         ·rw [if_pos c25] at H
          have c25b0 : decide ((a0.size : Int) ≤ x5_3) = true := decide_eq_true c25
          clear c25
          obtain rfl := Option.some.inj H
          go_wp2_with (first | ((with_reducible refine gate_callee (f := 44) rfl ?_); refine goesL_ (some 42) rfl rfl Tryd.func44 (by kernel_rfl) rfl #[.int .i64 x6_3, .int .i64 1, .int .i64 5] rfl zM ?_; (with_reducible refine (spec_l1In.calls x6_3 1 5 true _ A23.out).mono ?_); rintro e w' ⟨rfl, ⟨nd, rfl⟩⟩; refine ⟨_, rfl, ?_⟩))
          go_ret
          exact ⟨by first | rfl | (simp; done) | (simp [*]; done) | (simp; rw [Bool.eq_iff_iff]; simp; done), by repeat (first | exact Drawn0.refl _ | apply Drawn0.step)⟩
         ·rw [if_neg c25] at H
          have c25b0 : decide ((a0.size : Int) ≤ x5_3) = false := decide_eq_false c25
          clear c25
          by_cases c26 : 0 ≤ x5_3
          ·rw [if_pos c26] at H
           exact absurd H (by simp)
          ·rw [if_neg c26] at H
           exact absurd H (by simp)
        ·replace c24 := Bool.eq_false_iff.mpr c24
         subst c24
         have H1 : (some (-1)) = some r := by rw [if_neg (show ¬ (false = true) by decide)] at H; exact H
         clear H
         have H := H1
         clear H1
         obtain rfl := Option.some.inj H
         go_wp2_with (first | ((with_reducible refine gate_callee (f := 44) rfl ?_); refine goesL_ (some 42) rfl rfl Tryd.func44 (by kernel_rfl) rfl #[.int .i64 x6_3, .int .i64 1, .int .i64 5] rfl zM ?_; (with_reducible refine (spec_l1In.calls x6_3 1 5 false _ A23.out).mono ?_); rintro e w' ⟨rfl, ⟨nd, rfl⟩⟩; refine ⟨_, rfl, ?_⟩))
         go_ret
         exact ⟨by first | rfl | (simp; done) | (simp [*]; done) | (simp; rw [Bool.eq_iff_iff]; simp; done), by repeat (first | exact Drawn0.refl _ | apply Drawn0.step)⟩
/-! ### spec_l6Piece: function 55 -/
mutual
def spec_l6Piece.l0 : Nat → ByteArray → Int → Int → Option (Bool)
 | 0, _, _, _ => none
 | k + 1, x0, x3, x4 => if x4 < (x0.size : Int) then (spec_l6Piece.j1 k x0 x3 x4) else ((spec_l1In.f x3 1 12).bind fun t373 => (some t373))
def spec_l6Piece.j1 : Nat → ByteArray → Int → Int → Option (Bool)
 | 0, _, _, _ => none
 | k + 1, x0, x3, x4 => if 0 ≤ x4 then (if x4 < (x0.size : Int) then (if (bt x0 x4) = 91 then ((spec_l6Class.f k x0 x4).bind fun t374 => (if t374 < 0 then (some false) else (spec_l6Piece.l0 k x0 (wrap64 (x3 + 1)) t374))) else ((spec_l5Letter.f (bt x0 x4)).bind fun t375 => (if t375 = true then (spec_l6Piece.l0 k x0 (wrap64 (x3 + 1)) (wrap64 (x4 + 1))) else (if (bt x0 x4) = 63 then (spec_l6Piece.l0 k x0 (wrap64 (x3 + 1)) (wrap64 (x4 + 1))) else (if (bt x0 x4) = 42 then (spec_l6Piece.l0 k x0 (wrap64 (x3 + 1)) (wrap64 (x4 + 1))) else (some false)))))) else (none)) else (none)
end
def spec_l6Piece.f (k : Nat) (a0 : ByteArray) : Option (Bool) := spec_l6Piece.l0 k a0 0 0
theorem spec_l6Piece.calls (k : Nat) (a0 : ByteArray) (r : Bool) (w : World) (h : spec_l6Piece.f k a0 = some r) :
  Calls Tryd.prog 55 #[.string a0] w fun e w' => e = .returned (.bool r) ∧ Drawn0 w w' := by
 have H : (spec_l6Piece.l0 k a0 0 0) = some r := h
 clear h
 have H' := Aside0.mk H
 clear H
 go_enter Tryd.func55, Tryd.ntmps55
 go_wp2
 go_loopg [3, 4] k (fun kq v3 v4 w' => ∃ (x3_1 : Int) (x4_1 : Int), v3 = .int .i64 x3_1 ∧ v4 = .int .i64 x4_1 ∧ Aside0 (spec_l6Piece.l0 kq a0 x3_1 x4_1 = some r) ∧ Aside0 (kq ≤ k) ∧ Drawn0 w w')
 case atStart => exact ⟨(0), (0), zS, zS, H', ⟨Nat.le_refl _⟩, by repeat (first | exact Drawn0.refl _ | apply Drawn0.step)⟩
 case round =>
  clear H'
  obtain ⟨x3_1, x4_1, rfl, rfl, HA, HK1, ⟨m1, rfl⟩⟩ := hrel
  cases gk with
  | zero => exact absurd HA.out (by simp [spec_l6Piece.l0])
  | succ k1 =>
   have H := HA.out
   clear HA
   simp only [spec_l6Piece.l0] at H
   have HC2 := Aside0.mk H
   clear H
   go_upto_if 8 with (fail)
   go_cut [] (fun wc => ∃ (kq : Nat), Aside0 (spec_l6Piece.j1 kq a0 x3_1 x4_1 = some r) ∧ Aside0 (kq ≤ k1) ∧ Drawn0 w wc)
   case first =>
    have H := HC2.out
    clear HC2
    by_cases c3 : x4_1 < (a0.size : Int)
    ·rw [if_pos c3] at H
     have c3b0 : decide (x4_1 < (a0.size : Int)) = true := decide_eq_true c3
     clear c3
     (first | rw [c3b0] | (simp only [i64_w, i32_w]; rw [c3b0]) | skip)
     have H' := Aside0.mk H
     clear H
     go_wp2
     go_meet
     case rel => exact ⟨_, (by first | exact H' | (subst_vars; exact H')), ⟨by have := HK1.out; first | omega | exact Nat.le_refl _⟩, by repeat (first | exact Drawn0.refl _ | apply Drawn0.step)⟩
    ·rw [if_neg c3] at H
     have c3b0 : decide (x4_1 < (a0.size : Int)) = false := decide_eq_false c3
     clear c3
     (first | rw [c3b0] | (simp only [i64_w, i32_w]; rw [c3b0]) | skip)
     replace H := Option.bind_eq_some_iff.mp H
     obtain ⟨t373, A40, H⟩ := H
     replace H : (some t373) = some r := H
     have A4 := Aside0.mk A40
     clear A40
     obtain rfl := Option.some.inj H
     go_wp2_with (first | ((with_reducible refine gate_callee (f := 44) rfl ?_); refine goesL_ (some 41) rfl rfl Tryd.func44 (by kernel_rfl) rfl #[.int .i64 x3_1, .int .i64 1, .int .i64 12] rfl zM ?_; (with_reducible refine (spec_l1In.calls x3_1 1 12 t373 _ A4.out).mono ?_); rintro e w' ⟨rfl, ⟨nd, rfl⟩⟩; refine ⟨_, rfl, ?_⟩))
     go_ret
     exact ⟨by first | rfl | (simp; done) | (simp [*]; done) | (simp; rw [Bool.eq_iff_iff]; simp; done), by repeat (first | exact Drawn0.refl _ | apply Drawn0.step)⟩
   case rest =>
    clear HC2
    try clear p2
    try clear c3
    try clear c3b0
    try clear c4
    obtain ⟨kq, HA, HJ1, ⟨mc1, rfl⟩⟩ := hcut
    cases kq with
    | zero => exact absurd HA.out (by simp [spec_l6Piece.j1])
    | succ kj1 =>
     have H := HA.out
     clear HA
     simp only [spec_l6Piece.j1] at H
     by_cases c5 : 0 ≤ x4_1
     ·rw [if_pos c5] at H
      have c5b0 : decide (0 ≤ x4_1) = true := decide_eq_true c5
      clear c5
      by_cases c6 : x4_1 < (a0.size : Int)
      ·rw [if_pos c6] at H
       have c6b0 : decide (x4_1 < (a0.size : Int)) = true := decide_eq_true c6
       clear c6
       by_cases c8 : (bt a0 x4_1) = 91
       ·rw [if_pos c8] at H
        have c8b0 : ((bt a0 x4_1) == 91) = true := beq_iff_eq.mpr c8
        have c8b1 : ((bt a0 x4_1) != 91) = false := bne_eq_false_iff_eq.mpr c8
        clear c8
        replace H := Option.bind_eq_some_iff.mp H
        obtain ⟨t374, A90, H⟩ := H
        replace H : (if t374 < 0 then (some false) else (spec_l6Piece.l0 kj1 a0 (wrap64 (x3_1 + 1)) t374)) = some r := H
        have A9 := Aside0.mk A90
        clear A90
        by_cases c10 : t374 < 0
        ·rw [if_pos c10] at H
         have c10b0 : decide (t374 < 0) = true := decide_eq_true c10
         clear c10
         obtain rfl := Option.some.inj H
         have p7 : 0 ≤ (x4_1 : Int) := zD
         have q7 : x4_1 < (a0.size : Int) := zD
         have hx7 := bt_at a0 x4_1
         replace p7 := eq_true p7
         replace q7 := eq_true q7
         go_wp2_with (first | ((with_reducible refine gate_callee (f := 82) rfl ?_); refine goesL_ (some 18) rfl rfl Tryd.func82 (by kernel_rfl) rfl #[.string a0, .int .i64 x4_1] rfl zM ?_; (with_reducible refine (spec_l6Class.calls kj1 a0 x4_1 t374 _ A9.out).mono ?_); rintro e w' ⟨rfl, ⟨nd, rfl⟩⟩; refine ⟨_, rfl, ?_⟩))
         go_ret
         exact ⟨by first | rfl | (simp; done) | (simp [*]; done) | (simp; rw [Bool.eq_iff_iff]; simp; done), by repeat (first | exact Drawn0.refl _ | apply Drawn0.step)⟩
        ·rw [if_neg c10] at H
         have c10b0 : decide (t374 < 0) = false := decide_eq_false c10
         clear c10
         have H' := Aside0.mk H
         clear H
         have p7 : 0 ≤ (x4_1 : Int) := zD
         have q7 : x4_1 < (a0.size : Int) := zD
         have hx7 := bt_at a0 x4_1
         replace p7 := eq_true p7
         replace q7 := eq_true q7
         go_wp2_with (first | ((with_reducible refine gate_callee (f := 82) rfl ?_); refine goesL_ (some 18) rfl rfl Tryd.func82 (by kernel_rfl) rfl #[.string a0, .int .i64 x4_1] rfl zM ?_; (with_reducible refine (spec_l6Class.calls kj1 a0 x4_1 t374 _ A9.out).mono ?_); rintro e w' ⟨rfl, ⟨nd, rfl⟩⟩; refine ⟨_, rfl, ?_⟩))
         go_roundg kj1
         case measure => have := HK1.out; have := HJ1.out; omega
         case rel => exact ⟨(wrap64 (x3_1 + 1)), (t374), zS, zS, H', ⟨by have := HK1.out; have := HJ1.out; omega⟩, by repeat (first | exact Drawn0.refl _ | apply Drawn0.step)⟩
       ·rw [if_neg c8] at H
        have c8b0 : ((bt a0 x4_1) == 91) = false := beq_eq_false_iff_ne.mpr c8
        have c8b1 : ((bt a0 x4_1) != 91) = true := bne_iff_ne.mpr c8
        replace H := Option.bind_eq_some_iff.mp H
        obtain ⟨t375, A120, H⟩ := H
        replace H : (if t375 = true then (spec_l6Piece.l0 kj1 a0 (wrap64 (x3_1 + 1)) (wrap64 (x4_1 + 1))) else (if (bt a0 x4_1) = 63 then (spec_l6Piece.l0 kj1 a0 (wrap64 (x3_1 + 1)) (wrap64 (x4_1 + 1))) else (if (bt a0 x4_1) = 42 then (spec_l6Piece.l0 kj1 a0 (wrap64 (x3_1 + 1)) (wrap64 (x4_1 + 1))) else (some false)))) = some r := H
        have A12 := Aside0.mk A120
        clear A120
        by_cases c13 : t375 = true
        ·subst c13
         have H1 : (spec_l6Piece.l0 kj1 a0 (wrap64 (x3_1 + 1)) (wrap64 (x4_1 + 1))) = some r := by rw [if_pos rfl] at H; exact H
         clear H
         have H := H1
         clear H1
         have H' := Aside0.mk H
         clear H
         have p7 : 0 ≤ (x4_1 : Int) := zD
         have q7 : x4_1 < (a0.size : Int) := zD
         have hx7 := bt_at a0 x4_1
         replace p7 := eq_true p7
         replace q7 := eq_true q7
         have p11 : 0 ≤ (x4_1 : Int) := zD
         have q11 : x4_1 < (a0.size : Int) := zD
         have hx11 := bt_at a0 x4_1
         replace p11 := eq_true p11
         replace q11 := eq_true q11
         go_wp2_with (first | ((with_reducible refine gate_callee (f := 83) rfl ?_); refine goesL_ (some 25) rfl rfl Tryd.func83 (by kernel_rfl) rfl #[.int .u8 (bt a0 x4_1)] rfl zM ?_; (with_reducible refine (spec_l5Letter.calls (bt a0 x4_1) true _ A12.out).mono ?_); rintro e w' ⟨rfl, ⟨nd, rfl⟩⟩; refine ⟨_, rfl, ?_⟩))
         go_roundg kj1
         case measure => have := HK1.out; have := HJ1.out; omega
         case rel => exact ⟨(wrap64 (x3_1 + 1)), (wrap64 (x4_1 + 1)), zS, zS, H', ⟨by have := HK1.out; have := HJ1.out; omega⟩, by repeat (first | exact Drawn0.refl _ | apply Drawn0.step)⟩
        ·replace c13 := Bool.eq_false_iff.mpr c13
         subst c13
         have H1 : (if (bt a0 x4_1) = 63 then (spec_l6Piece.l0 kj1 a0 (wrap64 (x3_1 + 1)) (wrap64 (x4_1 + 1))) else (if (bt a0 x4_1) = 42 then (spec_l6Piece.l0 kj1 a0 (wrap64 (x3_1 + 1)) (wrap64 (x4_1 + 1))) else (some false))) = some r := by rw [if_neg (show ¬ (false = true) by decide)] at H; exact H
         clear H
         have H := H1
         clear H1
         by_cases c15 : (bt a0 x4_1) = 63
         ·rw [if_pos c15] at H
          have c15b0 : ((bt a0 x4_1) == 63) = true := beq_iff_eq.mpr c15
          have c15b1 : ((bt a0 x4_1) != 63) = false := bne_eq_false_iff_eq.mpr c15
          clear c15
          have H' := Aside0.mk H
          clear H
          have p7 : 0 ≤ (x4_1 : Int) := zD
          have q7 : x4_1 < (a0.size : Int) := zD
          have hx7 := bt_at a0 x4_1
          replace p7 := eq_true p7
          replace q7 := eq_true q7
          have p11 : 0 ≤ (x4_1 : Int) := zD
          have q11 : x4_1 < (a0.size : Int) := zD
          have hx11 := bt_at a0 x4_1
          replace p11 := eq_true p11
          replace q11 := eq_true q11
          go_wp2_with (first | ((with_reducible refine gate_callee (f := 83) rfl ?_); refine goesL_ (some 25) rfl rfl Tryd.func83 (by kernel_rfl) rfl #[.int .u8 (bt a0 x4_1)] rfl zM ?_; (with_reducible refine (spec_l5Letter.calls (bt a0 x4_1) false _ A12.out).mono ?_); rintro e w' ⟨rfl, ⟨nd, rfl⟩⟩; refine ⟨_, rfl, ?_⟩; have p14 : 0 ≤ (x4_1 : Int) := zD; have q14 : x4_1 < (a0.size : Int) := zD; have hx14 := bt_at a0 x4_1; replace p14 := eq_true p14; replace q14 := eq_true q14))
          go_roundg kj1
          case measure => have := HK1.out; have := HJ1.out; omega
          case rel => exact ⟨(wrap64 (x3_1 + 1)), (wrap64 (x4_1 + 1)), zS, zS, H', ⟨by have := HK1.out; have := HJ1.out; omega⟩, by repeat (first | exact Drawn0.refl _ | apply Drawn0.step)⟩
         ·rw [if_neg c15] at H
          have c15b0 : ((bt a0 x4_1) == 63) = false := beq_eq_false_iff_ne.mpr c15
          have c15b1 : ((bt a0 x4_1) != 63) = true := bne_iff_ne.mpr c15
          by_cases c17 : (bt a0 x4_1) = 42
          ·rw [if_pos c17] at H
           have c17b0 : ((bt a0 x4_1) == 42) = true := beq_iff_eq.mpr c17
           have c17b1 : ((bt a0 x4_1) != 42) = false := bne_eq_false_iff_eq.mpr c17
           clear c17
           have H' := Aside0.mk H
           clear H
           have p7 : 0 ≤ (x4_1 : Int) := zD
           have q7 : x4_1 < (a0.size : Int) := zD
           have hx7 := bt_at a0 x4_1
           replace p7 := eq_true p7
           replace q7 := eq_true q7
           have p11 : 0 ≤ (x4_1 : Int) := zD
           have q11 : x4_1 < (a0.size : Int) := zD
           have hx11 := bt_at a0 x4_1
           replace p11 := eq_true p11
           replace q11 := eq_true q11
           go_wp2_with (first | ((with_reducible refine gate_callee (f := 83) rfl ?_); refine goesL_ (some 25) rfl rfl Tryd.func83 (by kernel_rfl) rfl #[.int .u8 (bt a0 x4_1)] rfl zM ?_; (with_reducible refine (spec_l5Letter.calls (bt a0 x4_1) false _ A12.out).mono ?_); rintro e w' ⟨rfl, ⟨nd, rfl⟩⟩; refine ⟨_, rfl, ?_⟩; have p14 : 0 ≤ (x4_1 : Int) := zD; have q14 : x4_1 < (a0.size : Int) := zD; have hx14 := bt_at a0 x4_1; replace p14 := eq_true p14; replace q14 := eq_true q14; have p16 : 0 ≤ (x4_1 : Int) := zD; have q16 : x4_1 < (a0.size : Int) := zD; have hx16 := bt_at a0 x4_1; replace p16 := eq_true p16; replace q16 := eq_true q16))
           go_roundg kj1
           case measure => have := HK1.out; have := HJ1.out; omega
           case rel => exact ⟨(wrap64 (x3_1 + 1)), (wrap64 (x4_1 + 1)), zS, zS, H', ⟨by have := HK1.out; have := HJ1.out; omega⟩, by repeat (first | exact Drawn0.refl _ | apply Drawn0.step)⟩
          ·rw [if_neg c17] at H
           have c17b0 : ((bt a0 x4_1) == 42) = false := beq_eq_false_iff_ne.mpr c17
           have c17b1 : ((bt a0 x4_1) != 42) = true := bne_iff_ne.mpr c17
           obtain rfl := Option.some.inj H
           have p7 : 0 ≤ (x4_1 : Int) := zD
           have q7 : x4_1 < (a0.size : Int) := zD
           have hx7 := bt_at a0 x4_1
           replace p7 := eq_true p7
           replace q7 := eq_true q7
           have p11 : 0 ≤ (x4_1 : Int) := zD
           have q11 : x4_1 < (a0.size : Int) := zD
           have hx11 := bt_at a0 x4_1
           replace p11 := eq_true p11
           replace q11 := eq_true q11
           go_wp2_with (first | ((with_reducible refine gate_callee (f := 83) rfl ?_); refine goesL_ (some 25) rfl rfl Tryd.func83 (by kernel_rfl) rfl #[.int .u8 (bt a0 x4_1)] rfl zM ?_; (with_reducible refine (spec_l5Letter.calls (bt a0 x4_1) false _ A12.out).mono ?_); rintro e w' ⟨rfl, ⟨nd, rfl⟩⟩; refine ⟨_, rfl, ?_⟩; have p14 : 0 ≤ (x4_1 : Int) := zD; have q14 : x4_1 < (a0.size : Int) := zD; have hx14 := bt_at a0 x4_1; replace p14 := eq_true p14; replace q14 := eq_true q14; have p16 : 0 ≤ (x4_1 : Int) := zD; have q16 : x4_1 < (a0.size : Int) := zD; have hx16 := bt_at a0 x4_1; replace p16 := eq_true p16; replace q16 := eq_true q16))
           go_ret
           exact ⟨by first | rfl | (simp; done) | (simp [*]; done) | (simp; rw [Bool.eq_iff_iff]; simp; done), by repeat (first | exact Drawn0.refl _ | apply Drawn0.step)⟩
      ·rw [if_neg c6] at H
       exact absurd H (by simp)
     ·rw [if_neg c5] at H
      exact absurd H (by simp)
end Go.Proofs.YtbjgmbhkofgjaaaDoor.PGA
