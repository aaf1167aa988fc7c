/- The walks of the functions that these laws reach, and what each comes to: printed by this session's program. -/
import Derived.Test.YtpcdhoeoefoeoaaDoorZGAPGAx0
import Derived.Test.YtpcdhoeoefoeoaaDoorZGAPGAx3
import Derived.Test.YtpcdhoeoefoeoaaDoorZGAPGAx8
import Derived.Test.YtpcdhoeoefoeoaaDoorZGASays
namespace Go.Proofs.YtpcdhoeoefoeoaaDoor.PGA
open Go.RowKit Go.Proofs.YtpcdhoeoefoeoaaDoorW.PrintWords Go.Proofs.YtpcdhoeoefoeoaaDoorW.PrintLast Go.Proofs.YtpcdhoeoefoeoaaDoorW.PrintMore
attribute [local go_sem high] Go.Proofs.YtpcdhoeoefoeoaaDoor.Mine.str_gtr Go.Proofs.YtpcdhoeoefoeoaaDoor.Mine.str_leq Go.Proofs.YtpcdhoeoefoeoaaDoor.Mine.str_geq
attribute [local go_sem] max2_int min2_int max_two min_two max_three min_three max_four min_four   -- for this text's walks alone
set_option linter.unusedVariables false
set_option maxHeartbeats 8000000
set_option maxRecDepth 100000
set_option linter.unusedSimpArgs false
/-! ### impl_ParseRange: function 6 -/
mutual
def impl_ParseRange.j0 : Nat → List ByteArray → Option ((List (List (S57))) × Bool)
 | 0, _ => none
 | k + 1, x4 => impl_ParseRange.l0 k ([] : List (List (S57))) x4 (x4.length : Int) 0
def impl_ParseRange.l0 : Nat → List (List (S57)) → List ByteArray → Int → Int → Option ((List (List (S57))) × Bool)
 | 0, _, _, _, _ => none
 | k + 1, x5, x15, x16, x17 => if x17 < x16 then (if 0 ≤ x17 then (if x17 < (x15.length : Int) then ((impl_listOf.f k (rdOf ByteArray.empty x15 x17)).bind fun bt343 => (if bt343.2 = true then (if x5.length < 5864062014805 then (impl_ParseRange.l0 k (x5 ++ [bt343.1]) x15 x16 (wrap64 (x17 + 1))) else (none)) else (some (([] : List (List (S57))), false)))) else (none)) else (none)) else (some (x5, true))
end
def impl_ParseRange.f (k : Nat) (a0 : ByteArray) : Option ((List (List (S57))) × Bool) := (strings_Split.f a0 (⟨#[124, 124]⟩ : ByteArray)).bind fun t339 => (if (t339.length : Int) > 4 then (some (([] : List (List (S57))), false)) else (impl_ParseRange.j0 k t339))
theorem impl_ParseRange.calls (k : Nat) (a0 : ByteArray) (r1 : List (List (S57))) (r2 : Bool) (w : World) (hG : GW w) (h : impl_ParseRange.f k a0 = some (r1, r2)) :
  Calls Tryd.prog 6 #[.string a0] w fun e w' => ∃ v0_ : Value, e = .returned (.tuple #[v0_, .bool r2]) ∧ Kd.N (Kd.slice 57 k57) 39 w' w.heap.size (fun k_ => (w.heap.size ≤ k_)) v0_ r1 ∧ Below w.heap.size w w' := by
 have HG := Aside0.mk hG
 clear hG
 have HB := zA (Below.refl w.heap.size w)
 have H : ((strings_Split.f a0 (⟨#[124, 124]⟩ : ByteArray)).bind fun t339 => (if (t339.length : Int) > 4 then (some (([] : List (List (S57))), false)) else (impl_ParseRange.j0 k t339))) = some (r1, r2) := h
 clear h
 replace H := Option.bind_eq_some_iff.mp H
 obtain ⟨t339, A20, H⟩ := H
 try dsimp only at H
 have A2 := Aside0.mk A20
 clear A20
 have HC3 := Aside0.mk H
 clear H
 go_enter Tryd.func6, Tryd.ntmps6
 go_upto_if 14 with (first | ((with_reducible refine zq 12 ?_); refine zg (some 11) Tryd.func12 #[.string a0, .string (⟨#[124, 124]⟩ : ByteArray)] ?_; (with_reducible refine (strings_Split.calls a0 (⟨#[124, 124]⟩ : ByteArray) t339 _ ?side1 A2.out).mono ?_); (case side1 => exact GW.below HG.out (zB)); rintro e w4 ⟨v340, rfl, ho0, hb⟩; refine ⟨_, rfl, ?_⟩; have HO341 := zA (Kd.R_lower (Kd.R_newM (M := fun k_ => (w.heap.size ≤ k_)) ho0 (below_size (zB)) (fun k_ h_ => h_)) (below_size (zB))); replace HB := zA (below_step (zB) hb); (try clear hb ho0); obtain ⟨Ao5, co5, eo5⟩ := Kd.R_slice HO341.out; subst eo5))
 (try simp only [Act.put, zT])
 go_cut [] (fun wc => ∃ (kq : Nat), Aside0 (impl_ParseRange.j0 kq t339 = some (r1, r2)) ∧ Aside0 (kq ≤ k) ∧ Aside0 (Kd.R Kd.string 9 wc w.heap.size (fun k_ => (w.heap.size ≤ k_)) (.slice Ao5 t339.length co5) t339) ∧ Aside0 (Below w.heap.size w wc))
 case first =>
  have H := HC3.out
  clear HC3
  by_cases c6 : (t339.length : Int) > 4
  ·rw [if_pos c6] at H
   have c6b0 : decide (4 < (t339.length : Int)) = true := decide_eq_true c6
   have c6b1 : decide (4 < t339.length) = true := decide_eq_true (by omega)
   clear c6
   (first | rw [c6b0] | (simp only [i64_w, i32_w]; rw [c6b0]) | skip)
   simp only [Option.some.injEq, Prod.mk.injEq] at H
   obtain ⟨rfl, rfl⟩ := H
   go_wp2
   go_ret2
   exact ⟨_, zE, by first | exact Kd.R_nil _ _ _ _ _ | exact Kd.N_nil _ _ _ _ _ | exact Kd.V_nil _ _ _ _ _ | exact Kd.Q_nil _ _ _ _ _ | exact Kd.S_nil _ _ _ _ _, zB⟩
  ·rw [if_neg c6] at H
   have c6b0 : decide (4 < (t339.length : Int)) = false := decide_eq_false c6
   have c6b1 : decide (4 < t339.length) = false := decide_eq_false (by omega)
   clear c6
   (first | rw [c6b0] | (simp only [i64_w, i32_w]; rw [c6b0]) | skip)
   have H' := Aside0.mk H
   clear H
   go_wp2
   go_meet
   case rel => exact ⟨_, (by first | exact H' | (subst_vars; exact H')), ⟨by first | omega | exact Nat.le_refl _⟩, ⟨by (with_reducible repeat (first | apply Kd.R_alloc | apply Kd.R_drewN | apply Kd.R_drew)); exact Kd.R_mono HO341.out (fun _ hk => hk.1)⟩, ⟨zB⟩⟩
 case rest =>
  clear HC3
  try clear c1
  try clear p2
  try clear c6
  try clear c6b0
  try clear c6b1
  obtain ⟨kq, HA, HJ2, HO_4, HB⟩ := hcut
  cases kq with
  | zero => exact absurd HA.out (by simp [impl_ParseRange.j0])
  | succ kj2 =>
   have H := HA.out
   clear HA
   simp only [impl_ParseRange.j0] at H
   have H' := Aside0.mk H
   clear H
   go_wp2
   go_loopg [5, 17] kj2 (fun kq v5 v17 w' => ∃ (x5_2 : List (List (S57))) (x17_2 : Int), v17 = .int .i64 x17_2 ∧ Aside0 (impl_ParseRange.l0 kq x5_2 t339 (t339.length : Int) x17_2 = some (r1, r2)) ∧ Aside0 (kq ≤ kj2) ∧ Aside0 (Kd.N (Kd.slice 57 k57) 39 w' w.heap.size (fun k_ => (w.heap.size ≤ k_) ∧ some k_ ≠ ((.slice Ao5 t339.length co5) : Value).ownBlock) v5 x5_2) ∧ Aside0 (Kd.R Kd.string 9 w' w.heap.size (fun k_ => (w.heap.size ≤ k_)) (.slice Ao5 t339.length co5) t339) ∧ Aside0 (Below w.heap.size w w'))
   case atStart => exact ⟨(([] : List (List (S57)))), (0), zS, H', ⟨Nat.le_refl _⟩, ⟨by first | exact Kd.R_nil _ _ _ _ _ | exact Kd.N_nil _ _ _ _ _ | exact Kd.V_nil _ _ _ _ _ | exact Kd.Q_nil _ _ _ _ _ | exact Kd.S_nil _ _ _ _ _⟩, ⟨zR HO_4.out⟩, ⟨zB⟩⟩
   case round =>
    clear H'
    try clear c1
    try clear p2
    try clear c6
    try clear c6b0
    try clear c6b1
    try clear p2
    obtain ⟨x5_2, x17_2, rfl, HA, HK2, HO_5, HO_15, HB⟩ := hrel
    cases gk with
    | zero => exact absurd HA.out (by simp [impl_ParseRange.l0])
    | succ k2 =>
     have H := HA.out
     clear HA
     simp only [impl_ParseRange.l0] at H
     by_cases c7 : x17_2 < (t339.length : Int)
     ·rw [if_pos c7] at H
      have c7b0 := decide_eq_true c7
      clear c7
      by_cases c8 : 0 ≤ x17_2
      ·rw [if_pos c8] at H
       have c8b0 := decide_eq_true c8
       clear c8
       by_cases c9 : x17_2 < (t339.length : Int)
       ·rw [if_pos c9] at H
        have c9b0 := decide_eq_true c9
        clear c9
        replace H := Option.bind_eq_some_iff.mp H
        obtain ⟨⟨t343, t346⟩, A100, H⟩ := H
        try dsimp only at H
        have A10 := Aside0.mk A100
        clear A100
        by_cases c11 : t346 = true
        ·subst c11
         rw [if_pos rfl] at H
         by_cases c12 : x5_2.length < 5864062014805
         ·rw [if_pos c12] at H
          have LMc12 := Aside0.mk c12
          clear c12
          obtain ⟨y347, hy347⟩ : ∃ y_ : List (List (S57)), y_ = (x5_2 ++ [t343]) := ⟨_, rfl⟩
          replace H : (impl_ParseRange.l0 k2 y347 t339 (t339.length : Int) (wrap64 (x17_2 + 1))) = some (r1, r2) := by first | (rw [hy347]; with_reducible exact H) | (have H2_ := (Option.bind_some _ _).symm.trans H; rw [hy347]; with_reducible exact H2_) | (have H2_ := (Option.bind_some _ _).symm.trans H; with_reducible exact H2_) | with_reducible exact H | (rw [hy347]; exact H) | exact H
          have Ny347 := Aside0.mk hy347
          clear hy347
          have H' := Aside0.mk H
          clear H
          have p342 : 0 ≤ (x17_2 : Int) := zD
          have q342 : x17_2 < (t339.length : Int) := zD
          obtain ⟨ad342, e342, hx342_0⟩ := Kd.at_string (Kd.R_reads' HO_15.out).2.2 x17_2 p342 q342
          cases e342
          replace p342 := eq_true p342
          replace q342 := eq_true q342
          go_wp2_with (first | ((with_reducible refine zq 13 ?_); refine zg (some 23) Tryd.func13 #[.string (rdOf ByteArray.empty t339 x17_2)] ?_; (with_reducible refine (impl_listOf.calls k2 (rdOf ByteArray.empty t339 x17_2) t343 true _ ?side1 A10.out).mono ?_); (case side1 => exact GW.below HG.out (zB)); rintro e w13 ⟨v344, rfl, ho0, hb⟩; refine ⟨_, rfl, ?_⟩; have HO345 := zA (Kd.N_lower (Kd.N_mono (ok' := fun k_ => (w.heap.size ≤ k_) ∧ some k_ ≠ (u5 : Value).ownBlock ∧ some k_ ≠ (.slice (some ad342) t339.length co5 : Value).ownBlock) ho0 (fun k_ hk_ => ⟨(Nat.le_trans (below_size (zB)) hk_), (Kd.fresh' (Kd.N_lt (zN HO_5.out)) k_ hk_), (Kd.fresh' (Kd.R_lt (zR HO_15.out)) k_ hk_)⟩)) (below_size (zB))); replace HO_5 := zA (Kd.N_elder' (zN HO_5.out) (Kd.N_base ho0) hb); replace HO_15 := zr HO_15 hb; replace HB := zA (below_step (zB) hb); (try clear hb ho0); obtain ⟨Ao15, co15, eo15⟩ := Kd.N_slice HO345.out; subst eo15) | ((with_reducible refine gate_builtin (b := .append) (xs := #[.tmp 28, .tmp 30]) rfl ?_); at_builtin; refine Kd.N_append (Kd.slice 57 k57) (w0 := w) w.heap.size rfl (.tmp 28) (.tmp 30) 29 39 (.slice none 0 0) 24 rfl Tryd.underlying29 info39 rfl (by decide) (by omega) u5 x5_2 t343 [.slice Ao15 t343.length co15] (fun k_ => (w.heap.size ≤ k_) ∧ some k_ ≠ (.slice (some ad342) t339.length co5 : Value).ownBlock) (fun k_ => ((fun k_ => (w.heap.size ≤ k_) ∧ some k_ ≠ (.slice (some ad342) t339.length co5 : Value).ownBlock)) k_ ∧ some k_ ≠ (u5 : Value).ownBlock) rfl rfl ?aP (fun _ hk => hk) ?aF ?aO ?aB ?aS ?aL ?_; (case aP => exact (Kd.FK_slice_mk (Kd.N_reads' (Kd.N_mono (ok' := (fun k_ => ((fun k_ => (w.heap.size ≤ k_) ∧ some k_ ≠ (.slice (some ad342) t339.length co5 : Value).ownBlock)) k_ ∧ some k_ ≠ (u5 : Value).ownBlock)) (HO345.out) (fun k_ hk => ⟨⟨hk.1, hk.2.2⟩, hk.2.1⟩))).2.1 (Kd.N_F (Kd.N_mono (ok' := (fun k_ => ((fun k_ => (w.heap.size ≤ k_) ∧ some k_ ≠ (.slice (some ad342) t339.length co5 : Value).ownBlock)) k_ ∧ some k_ ≠ (u5 : Value).ownBlock)) (HO345.out) (fun k_ hk => ⟨⟨hk.1, hk.2.2⟩, hk.2.1⟩))))); (case aB => exact (zB)); (case aF => exact (fun k_ hk => ⟨(Nat.le_trans (below_size (zB)) hk), Kd.fresh' (Kd.R_lt (zR HO_15.out)) k_ hk⟩)); (case aO => exact (by (with_reducible repeat (first | apply Kd.N_alloc | apply Kd.N_drewN | apply Kd.N_drew)); exact Kd.N_mono HO_5.out (fun _ hk => ⟨hk.1.1, hk.1.2⟩))); (case aS => exact (below_size (zB))); (case aL => have := LMc12.out; omega); intro v348 w14 ho hb hg hat; rw [← Ny347.out] at ho; replace HO_15 := zA (Kd.R_over' (zR HO_15.out) (Kd.N_typed (zN HO_5.out)) (by decide) hg); replace HB := zA (hb); have HO349 := zA (ho); clear HO_5 HO345; clear ho hb hg hat))
          go_roundg k2
          case measure => have := HJ2.out; have := HK2.out; omega
          case rel => exact ⟨(y347), (wrap64 (x17_2 + 1)), zS, H', ⟨by have := HJ2.out; have := HK2.out; omega⟩, ⟨by (with_reducible repeat (first | apply Kd.N_alloc | apply Kd.N_drewN | apply Kd.N_drew)); exact HO349.out⟩, ⟨zR HO_15.out⟩, ⟨zB⟩⟩
         ·rw [if_neg c12] at H
          exact absurd H (by simp)
        ·replace c11 := Bool.eq_false_iff.mpr c11
         subst c11
         rw [if_neg zFT] at H
         simp only [Option.some.injEq, Prod.mk.injEq] at H
         obtain ⟨rfl, rfl⟩ := H
         have p342 : 0 ≤ (x17_2 : Int) := zD
         have q342 : x17_2 < (t339.length : Int) := zD
         obtain ⟨ad342, e342, hx342_0⟩ := Kd.at_string (Kd.R_reads' HO_15.out).2.2 x17_2 p342 q342
         cases e342
         replace p342 := eq_true p342
         replace q342 := eq_true q342
         go_wp2_with (first | ((with_reducible refine zq 13 ?_); refine zg (some 23) Tryd.func13 #[.string (rdOf ByteArray.empty t339 x17_2)] ?_; (with_reducible refine (impl_listOf.calls k2 (rdOf ByteArray.empty t339 x17_2) t343 false _ ?side1 A10.out).mono ?_); (case side1 => exact GW.below HG.out (zB)); rintro e w16 ⟨v344, rfl, ho0, hb⟩; refine ⟨_, rfl, ?_⟩; have HO345 := zA (Kd.N_lower (Kd.N_mono (ok' := fun k_ => (w.heap.size ≤ k_) ∧ some k_ ≠ (u5 : Value).ownBlock ∧ some k_ ≠ (.slice (some ad342) t339.length co5 : Value).ownBlock) ho0 (fun k_ hk_ => ⟨(Nat.le_trans (below_size (zB)) hk_), (Kd.fresh' (Kd.N_lt (zN HO_5.out)) k_ hk_), (Kd.fresh' (Kd.R_lt (zR HO_15.out)) k_ hk_)⟩)) (below_size (zB))); replace HO_5 := zA (Kd.N_elder' (zN HO_5.out) (Kd.N_base ho0) hb); replace HO_15 := zr HO_15 hb; replace HB := zA (below_step (zB) hb); (try clear hb ho0)))
         go_ret2
         exact ⟨_, zE, by first | exact Kd.R_nil _ _ _ _ _ | exact Kd.N_nil _ _ _ _ _ | exact Kd.V_nil _ _ _ _ _ | exact Kd.Q_nil _ _ _ _ _ | exact Kd.S_nil _ _ _ _ _, zB⟩
       ·rw [if_neg c9] at H
        exact absurd H (by simp)
      ·rw [if_neg c8] at H
       exact absurd H (by simp)
     ·rw [if_neg c7] at H
      have c7b0 := decide_eq_false c7
      clear c7
      simp only [Option.some.injEq, Prod.mk.injEq] at H
      obtain ⟨rfl, rfl⟩ := H
      go_wp2
      go_ret2
      exact ⟨_, zE, by (with_reducible repeat (first | apply Kd.N_alloc | apply Kd.N_drewN | apply Kd.N_drew)); exact Kd.N_mono HO_5.out (fun _ hk => hk.1), zB⟩
/-! ### cmp_Or_int: function 33 -/
def cmp_Or_int.l0 : Nat → Int → List Int → Int → Int → Option (Int)
 | 0, _, _, _, _ => none
 | k + 1, x3, x6, x7, x8 => if x8 < x7 then (if 0 ≤ x8 then (if x8 < (x6.length : Int) then (if (rd x6 x8) = x3 then (cmp_Or_int.l0 k x3 x6 x7 (wrap64 (x8 + 1))) else (some (rd x6 x8))) else (none)) else (none)) else (some x3)
def cmp_Or_int.f (k : Nat) (l0 : List Int) : Option (Int) := cmp_Or_int.l0 k 0 l0 (l0.length : Int) 0
theorem cmp_Or_int.calls (k : Nat) (A0 : Option Addr) (c0 : Nat) (l0 : List Int) (r : Int) (w : World) (hr0 : Kd.C (Kd.int .i64) w A0 l0.length l0) (hc0 : l0.length ≤ c0) (h : cmp_Or_int.f k l0 = some r) :
  Calls Tryd.prog 33 #[.slice A0 l0.length c0] w fun e w' => e = .returned (.int .i64 r) ∧ Drawn0 w w' := by
 have HR0 := Aside0.mk hr0
 have HC0 := Aside0.mk hc0
 clear hr0 hc0
 have H : (cmp_Or_int.l0 k 0 l0 (l0.length : Int) 0) = some r := h
 clear h
 have H' := Aside0.mk H
 clear H
 go_enter Tryd.func33, Tryd.ntmps33
 go_wp2
 go_loopg [8] k (fun kq v8 w' => ∃ (x8_1 : Int), v8 = .int .i64 x8_1 ∧ Aside0 (cmp_Or_int.l0 kq 0 l0 (l0.length : Int) x8_1 = some r) ∧ Aside0 (kq ≤ k) ∧ Drawn0 w w')
 case atStart => exact ⟨(0), zS, H', ⟨Nat.le_refl _⟩, by repeat (first | exact Drawn0.refl _ | apply Drawn0.step)⟩
 case round =>
  clear H'
  obtain ⟨x8_1, rfl, HA, HK1, ⟨m1, rfl⟩⟩ := hrel
  cases gk with
  | zero => exact absurd HA.out (by simp [cmp_Or_int.l0])
  | succ k1 =>
   have H := HA.out
   clear HA
   simp only [cmp_Or_int.l0] at H
   by_cases c2 : x8_1 < (l0.length : Int)
   ·rw [if_pos c2] at H
    have c2b0 := decide_eq_true c2
    clear c2
    by_cases c3 : 0 ≤ x8_1
    ·rw [if_pos c3] at H
     have c3b0 := decide_eq_true c3
     clear c3
     by_cases c4 : x8_1 < (l0.length : Int)
     ·rw [if_pos c4] at H
      have c4b0 := decide_eq_true c4
      clear c4
      by_cases c5 : (rd l0 x8_1) = 0
      ·rw [if_pos c5] at H
       have c5b0 : ((rd l0 x8_1) == 0) = true := beq_iff_eq.mpr c5
       have c5b1 : ((rd l0 x8_1) != 0) = false := bne_eq_false_iff_eq.mpr c5
       clear c5
       have H' := Aside0.mk H
       clear H
       have p350 : 0 ≤ (x8_1 : Int) := zD
       have q350 : x8_1 < (l0.length : Int) := zD
       obtain ⟨ad350, e350, hx350_0⟩ := Kd.at_int HR0.out x8_1 p350 q350
       cases e350
       replace p350 := eq_true p350
       replace q350 := eq_true q350
       go_wp2
       go_roundg k1
       case measure => have := HK1.out; omega
       case rel => exact ⟨(wrap64 (x8_1 + 1)), zS, H', ⟨by have := HK1.out; omega⟩, by repeat (first | exact Drawn0.refl _ | apply Drawn0.step)⟩
      ·rw [if_neg c5] at H
       have c5b0 : ((rd l0 x8_1) == 0) = false := beq_eq_false_iff_ne.mpr c5
       have c5b1 : ((rd l0 x8_1) != 0) = true := bne_iff_ne.mpr c5
       obtain rfl := Option.some.inj H
       have p350 : 0 ≤ (x8_1 : Int) := zD
       have q350 : x8_1 < (l0.length : Int) := zD
       obtain ⟨ad350, e350, hx350_0⟩ := Kd.at_int HR0.out x8_1 p350 q350
       cases e350
       replace p350 := eq_true p350
       replace q350 := eq_true q350
       go_wp2
       go_ret
       exact ⟨by first | rfl | (simp; done) | (simp [*]; done) | (simp; rw [Bool.eq_iff_iff]; simp; done), by repeat (first | exact Drawn0.refl _ | apply Drawn0.step)⟩
     ·rw [if_neg c4] at H
      exact absurd H (by simp)
    ·rw [if_neg c3] at H
     exact absurd H (by simp)
   ·rw [if_neg c2] at H
    have c2b0 := decide_eq_false c2
    clear c2
    obtain rfl := Option.some.inj H
    go_wp2
    go_ret
    exact ⟨by first | rfl | (simp; done) | (simp [*]; done) | (simp; rw [Bool.eq_iff_iff]; simp; done), by repeat (first | exact Drawn0.refl _ | apply Drawn0.step)⟩
/-! ### cmp_isNaN_int: function 59 -/
def cmp_isNaN_int.f (a0 : Int) : Option (Bool) := some (a0 != a0)
theorem cmp_isNaN_int.calls (a0 : Int) (r : Bool) (w : World) (h : cmp_isNaN_int.f a0 = some r) :
  Calls Tryd.prog 59 #[.int .i64 a0] w fun e w' => e = .returned (.bool r) ∧ Drawn0 w w' := by
 have H : (some (a0 != a0)) = some r := h
 clear h
 obtain rfl := Option.some.inj H
 go_enter Tryd.func59, Tryd.ntmps59
 go_wp2
 go_ret
 exact ⟨by first | rfl | (simp; done) | (simp [*]; done) | (simp; rw [Bool.eq_iff_iff]; simp; done), by repeat (first | exact Drawn0.refl _ | apply Drawn0.step)⟩
/-! ### cmp_Compare_int: function 34 -/
mutual
def cmp_Compare_int.j0 : Nat → Int → Int → Bool → Option (Int)
 | 0, _, _, _ => none
 | k + 1, x0, x1, x6 => if x6 = true then (some 1) else (cmp_Compare_int.j1 k x0 x1)
def cmp_Compare_int.j1 : Nat → Int → Int → Option (Int)
 | 0, _, _ => none
 | k + 1, x0, x1 => if x0 < x1 then (some (-1)) else (if x0 > x1 then (some 1) else (some 0))
end
def cmp_Compare_int.f (k : Nat) (a0 : Int) (a1 : Int) : Option (Int) := (cmp_isNaN_int.f a0).bind fun t351 => ((cmp_isNaN_int.f a1).bind fun t352 => (if t351 = true then (if t352 = true then (some 0) else (some (-1))) else (cmp_Compare_int.j0 k a0 a1 t352)))
theorem cmp_Compare_int.calls (k : Nat) (a0 : Int) (a1 : Int) (r : Int) (w : World) (h : cmp_Compare_int.f k a0 a1 = some r) :
  Calls Tryd.prog 34 #[.int .i64 a0, .int .i64 a1] w fun e w' => e = .returned (.int .i64 r) ∧ Drawn0 w w' := by
 have H : ((cmp_isNaN_int.f a0).bind fun t351 => ((cmp_isNaN_int.f a1).bind fun t352 => (if t351 = true then (if t352 = true then (some 0) else (some (-1))) else (cmp_Compare_int.j0 k a0 a1 t352)))) = some r := h
 clear h
 replace H := Option.bind_eq_some_iff.mp H
 obtain ⟨t351, A30, H⟩ := H
 try dsimp only at H
 have A3 := Aside0.mk A30
 clear A30
 replace H := Option.bind_eq_some_iff.mp H
 obtain ⟨t352, A40, H⟩ := H
 try dsimp only at H
 have A4 := Aside0.mk A40
 clear A40
 have HC5 := Aside0.mk H
 clear H
 go_enter Tryd.func34, Tryd.ntmps34
 go_upto_if 11 with (first | ((with_reducible refine zq 59 ?_); refine zg (some 8) Tryd.func59 #[.int .i64 a0] ?_; (with_reducible refine (cmp_isNaN_int.calls a0 t351 _ A3.out).mono ?_); rintro e w' ⟨rfl, ⟨nd, rfl⟩⟩; refine ⟨_, rfl, ?_⟩) | ((with_reducible refine zq 59 ?_); refine zg (some 10) Tryd.func59 #[.int .i64 a1] ?_; (with_reducible refine (cmp_isNaN_int.calls a1 t352 _ A4.out).mono ?_); rintro e w' ⟨rfl, ⟨nd, rfl⟩⟩; refine ⟨_, rfl, ?_⟩))
 (try simp only [Act.put, zT])
 go_cut [] (fun wc => ∃ (kq : Nat), Aside0 (cmp_Compare_int.j0 kq a0 a1 t352 = some r) ∧ Aside0 (kq ≤ k) ∧ Drawn0 w wc)
 case first =>
  have H := HC5.out
  clear HC5
  by_cases c6 : t351 = true
  ·subst c6
   rw [if_pos rfl] at H
   by_cases c7 : t352 = true
   ·subst c7
    rw [if_pos rfl] at H
    obtain rfl := Option.some.inj H
    go_wp2
    go_ret
    exact ⟨by first | rfl | (simp; done) | (simp [*]; done) | (simp; rw [Bool.eq_iff_iff]; simp; done), by repeat (first | exact Drawn0.refl _ | apply Drawn0.step)⟩
   ·replace c7 := Bool.eq_false_iff.mpr c7
    subst c7
    rw [if_neg zFT] at H
    obtain rfl := Option.some.inj H
    go_wp2
    go_ret
    exact ⟨by first | rfl | (simp; done) | (simp [*]; done) | (simp; rw [Bool.eq_iff_iff]; simp; done), by repeat (first | exact Drawn0.refl _ | apply Drawn0.step)⟩
  ·replace c6 := Bool.eq_false_iff.mpr c6
   subst c6
   rw [if_neg zFT] at H
   have H' := Aside0.mk H
   clear H
   go_wp2
   go_meet
   case rel => exact ⟨_, (by first | exact H' | (subst_vars; exact H')), ⟨by first | omega | exact Nat.le_refl _⟩, by repeat (first | exact Drawn0.refl _ | apply Drawn0.step)⟩
 case rest =>
  clear HC5
  try clear p2
  try clear c3
  try clear c5
  try clear c6
  try clear c7
  obtain ⟨kq, HA, HJ4, ⟨mc4, rfl⟩⟩ := hcut
  cases kq with
  | zero => exact absurd HA.out (by simp [cmp_Compare_int.j0])
  | succ kj4 =>
   have H := HA.out
   clear HA
   simp only [cmp_Compare_int.j0] at H
   have HC8 := Aside0.mk H
   clear H
   go_upto_if 13 with (fail)
   go_cut [] (fun wc => ∃ (kq : Nat), Aside0 (cmp_Compare_int.j1 kq a0 a1 = some r) ∧ Aside0 (kq ≤ kj4) ∧ Drawn0 w wc)
   case first =>
    have H := HC8.out
    clear HC8
    by_cases c9 : t352 = true
    ·subst c9
     rw [if_pos rfl] at H
     obtain rfl := Option.some.inj H
     go_wp2
     go_ret
     exact ⟨by first | rfl | (simp; done) | (simp [*]; done) | (simp; rw [Bool.eq_iff_iff]; simp; done), by repeat (first | exact Drawn0.refl _ | apply Drawn0.step)⟩
    ·replace c9 := Bool.eq_false_iff.mpr c9
     subst c9
     rw [if_neg zFT] at H
     have H' := Aside0.mk H
     clear H
     go_wp2
     go_meet
     case rel => exact ⟨_, (by first | exact H' | (subst_vars; exact H')), ⟨by have := HJ4.out; first | omega | exact Nat.le_refl _⟩, by repeat (first | exact Drawn0.refl _ | apply Drawn0.step)⟩
   case rest =>
    clear HC8
    try clear p2
    try clear c3
    try clear c4
    try clear c5
    try clear c6
    try clear c7
    try clear c9
    try clear p2
    obtain ⟨kq, HA, HJ7, ⟨mc7, rfl⟩⟩ := hcut
    cases kq with
    | zero => exact absurd HA.out (by simp [cmp_Compare_int.j1])
    | succ kj7 =>
     have H := HA.out
     clear HA
     simp only [cmp_Compare_int.j1] at H
     by_cases c10 : a0 < a1
     ·rw [if_pos c10] at H
      have c10b0 := decide_eq_true c10
      clear c10
      obtain rfl := Option.some.inj H
      go_wp2
      go_ret
      exact ⟨by first | rfl | (simp; done) | (simp [*]; done) | (simp; rw [Bool.eq_iff_iff]; simp; done), by repeat (first | exact Drawn0.refl _ | apply Drawn0.step)⟩
     ·rw [if_neg c10] at H
      have c10b0 := decide_eq_false c10
      clear c10
      by_cases c11 : a0 > a1
      ·rw [if_pos c11] at H
       have c11b0 : decide (a1 < a0) = true := decide_eq_true c11
       clear c11
       obtain rfl := Option.some.inj H
       go_wp2
       go_ret
       exact ⟨by first | rfl | (simp; done) | (simp [*]; done) | (simp; rw [Bool.eq_iff_iff]; simp; done), by repeat (first | exact Drawn0.refl _ | apply Drawn0.step)⟩
      ·rw [if_neg c11] at H
       have c11b0 : decide (a1 < a0) = false := decide_eq_false c11
       clear c11
       obtain rfl := Option.some.inj H
       go_wp2
       go_ret
       exact ⟨by first | rfl | (simp; done) | (simp [*]; done) | (simp; rw [Bool.eq_iff_iff]; simp; done), by repeat (first | exact Drawn0.refl _ | apply Drawn0.step)⟩
/-! ### cmp_isNaN_string: function 76 -/
def cmp_isNaN_string.f (a0 : ByteArray) : Option (Bool) := some (a0.toList != a0.toList)
theorem cmp_isNaN_string.calls (a0 : ByteArray) (r : Bool) (w : World) (h : cmp_isNaN_string.f a0 = some r) :
  Calls Tryd.prog 76 #[.string a0] w fun e w' => e = .returned (.bool r) ∧ Drawn0 w w' := by
 have H : (some (a0.toList != a0.toList)) = some r := h
 clear h
 obtain rfl := Option.some.inj H
 go_enter Tryd.func76, Tryd.ntmps76
 go_wp2
 go_ret
 exact ⟨by first | rfl | (simp; done) | (simp [*]; done) | (simp; rw [Bool.eq_iff_iff]; simp; done), by repeat (first | exact Drawn0.refl _ | apply Drawn0.step)⟩
/-! ### cmp_Compare_string: function 60 -/
mutual
def cmp_Compare_string.j0 : Nat → ByteArray → ByteArray → Bool → Option (Int)
 | 0, _, _, _ => none
 | k + 1, x0, x1, x6 => if x6 = true then (some 1) else (cmp_Compare_string.j1 k x0 x1)
def cmp_Compare_string.j1 : Nat → ByteArray → ByteArray → Option (Int)
 | 0, _, _ => none
 | k + 1, x0, x1 => if (Op.bytesLess x0.toList x1.toList) = true then (some (-1)) else (if (Op.bytesLess x1.toList x0.toList) = true then (some 1) else (some 0))
end
def cmp_Compare_string.f (k : Nat) (a0 : ByteArray) (a1 : ByteArray) : Option (Int) := (cmp_isNaN_string.f a0).bind fun t353 => ((cmp_isNaN_string.f a1).bind fun t354 => (if t353 = true then (if t354 = true then (some 0) else (some (-1))) else (cmp_Compare_string.j0 k a0 a1 t354)))
theorem cmp_Compare_string.calls (k : Nat) (a0 : ByteArray) (a1 : ByteArray) (r : Int) (w : World) (h : cmp_Compare_string.f k a0 a1 = some r) :
  Calls Tryd.prog 60 #[.string a0, .string a1] w fun e w' => e = .returned (.int .i64 r) ∧ Drawn0 w w' := by
 have H : ((cmp_isNaN_string.f a0).bind fun t353 => ((cmp_isNaN_string.f a1).bind fun t354 => (if t353 = true then (if t354 = true then (some 0) else (some (-1))) else (cmp_Compare_string.j0 k a0 a1 t354)))) = some r := h
 clear h
 replace H := Option.bind_eq_some_iff.mp H
 obtain ⟨t353, A30, H⟩ := H
 try dsimp only at H
 have A3 := Aside0.mk A30
 clear A30
 replace H := Option.bind_eq_some_iff.mp H
 obtain ⟨t354, A40, H⟩ := H
 try dsimp only at H
 have A4 := Aside0.mk A40
 clear A40
 have HC5 := Aside0.mk H
 clear H
 go_enter Tryd.func60, Tryd.ntmps60
 go_upto_if 11 with (first | ((with_reducible refine zq 76 ?_); refine zg (some 8) Tryd.func76 #[.string a0] ?_; (with_reducible refine (cmp_isNaN_string.calls a0 t353 _ A3.out).mono ?_); rintro e w' ⟨rfl, ⟨nd, rfl⟩⟩; refine ⟨_, rfl, ?_⟩) | ((with_reducible refine zq 76 ?_); refine zg (some 10) Tryd.func76 #[.string a1] ?_; (with_reducible refine (cmp_isNaN_string.calls a1 t354 _ A4.out).mono ?_); rintro e w' ⟨rfl, ⟨nd, rfl⟩⟩; refine ⟨_, rfl, ?_⟩))
 (try simp only [Act.put, zT])
 go_cut [] (fun wc => ∃ (kq : Nat), Aside0 (cmp_Compare_string.j0 kq a0 a1 t354 = some r) ∧ Aside0 (kq ≤ k) ∧ Drawn0 w wc)
 case first =>
  have H := HC5.out
  clear HC5
  by_cases c6 : t353 = true
  ·subst c6
   rw [if_pos rfl] at H
   by_cases c7 : t354 = true
   ·subst c7
    rw [if_pos rfl] at H
    obtain rfl := Option.some.inj H
    go_wp2
    go_ret
    exact ⟨by first | rfl | (simp; done) | (simp [*]; done) | (simp; rw [Bool.eq_iff_iff]; simp; done), by repeat (first | exact Drawn0.refl _ | apply Drawn0.step)⟩
   ·replace c7 := Bool.eq_false_iff.mpr c7
    subst c7
    rw [if_neg zFT] at H
    obtain rfl := Option.some.inj H
    go_wp2
    go_ret
    exact ⟨by first | rfl | (simp; done) | (simp [*]; done) | (simp; rw [Bool.eq_iff_iff]; simp; done), by repeat (first | exact Drawn0.refl _ | apply Drawn0.step)⟩
  ·replace c6 := Bool.eq_false_iff.mpr c6
   subst c6
   rw [if_neg zFT] at H
   have H' := Aside0.mk H
   clear H
   go_wp2
   go_meet
   case rel => exact ⟨_, (by first | exact H' | (subst_vars; exact H')), ⟨by first | omega | exact Nat.le_refl _⟩, by repeat (first | exact Drawn0.refl _ | apply Drawn0.step)⟩
 case rest =>
  clear HC5
  try clear p2
  try clear c6
  try clear c7
  obtain ⟨kq, HA, HJ4, ⟨mc4, rfl⟩⟩ := hcut
  cases kq with
  | zero => exact absurd HA.out (by simp [cmp_Compare_string.j0])
  | succ kj4 =>
   have H := HA.out
   clear HA
   simp only [cmp_Compare_string.j0] at H
   have HC8 := Aside0.mk H
   clear H
   go_upto_if 13 with (fail)
   go_cut [] (fun wc => ∃ (kq : Nat), Aside0 (cmp_Compare_string.j1 kq a0 a1 = some r) ∧ Aside0 (kq ≤ kj4) ∧ Drawn0 w wc)
   case first =>
    have H := HC8.out
    clear HC8
    by_cases c9 : t354 = true
    ·subst c9
     rw [if_pos rfl] at H
     obtain rfl := Option.some.inj H
     go_wp2
     go_ret
     exact ⟨by first | rfl | (simp; done) | (simp [*]; done) | (simp; rw [Bool.eq_iff_iff]; simp; done), by repeat (first | exact Drawn0.refl _ | apply Drawn0.step)⟩
    ·replace c9 := Bool.eq_false_iff.mpr c9
     subst c9
     rw [if_neg zFT] at H
     have H' := Aside0.mk H
     clear H
     go_wp2
     go_meet
     case rel => exact ⟨_, (by first | exact H' | (subst_vars; exact H')), ⟨by have := HJ4.out; first | omega | exact Nat.le_refl _⟩, by repeat (first | exact Drawn0.refl _ | apply Drawn0.step)⟩
   case rest =>
    clear HC8
    try clear p2
    try clear c4
    try clear c6
    try clear c7
    try clear c9
    try clear p2
    obtain ⟨kq, HA, HJ7, ⟨mc7, rfl⟩⟩ := hcut
    cases kq with
    | zero => exact absurd HA.out (by simp [cmp_Compare_string.j1])
    | succ kj7 =>
     have H := HA.out
     clear HA
     simp only [cmp_Compare_string.j1] at H
     by_cases c10 : (Op.bytesLess a0.toList a1.toList) = true
     ·rw [if_pos c10] at H
      have c10b0 : (Op.bytesLess a0.toList a1.toList) = true := c10
      clear c10
      obtain rfl := Option.some.inj H
      go_wp2
      go_ret
      exact ⟨by first | rfl | (simp; done) | (simp [*]; done) | (simp; rw [Bool.eq_iff_iff]; simp; done), by repeat (first | exact Drawn0.refl _ | apply Drawn0.step)⟩
     ·rw [if_neg c10] at H
      have c10b0 : (Op.bytesLess a0.toList a1.toList) = false := by simpa using c10
      clear c10
      by_cases c11 : (Op.bytesLess a1.toList a0.toList) = true
      ·rw [if_pos c11] at H
       have c11b0 : (Op.bytesLess a1.toList a0.toList) = true := c11
       clear c11
       obtain rfl := Option.some.inj H
       go_wp2
       go_ret
       exact ⟨by first | rfl | (simp; done) | (simp [*]; done) | (simp; rw [Bool.eq_iff_iff]; simp; done), by repeat (first | exact Drawn0.refl _ | apply Drawn0.step)⟩
      ·rw [if_neg c11] at H
       have c11b0 : (Op.bytesLess a1.toList a0.toList) = false := by simpa using c11
       clear c11
       obtain rfl := Option.some.inj H
       go_wp2
       go_ret
       exact ⟨by first | rfl | (simp; done) | (simp [*]; done) | (simp; rw [Bool.eq_iff_iff]; simp; done), by repeat (first | exact Drawn0.refl _ | apply Drawn0.step)⟩
/-! ### impl_compareWords: function 36 -/
mutual
def impl_compareWords.j0 : Nat → ByteArray → ByteArray → Bool → Bool → Option (Int)
 | 0, _, _, _, _ => none
 | k + 1, x0, x1, x5, x6 => if x5 = true then (impl_compareWords.j1 k x0 x1 x5 x6 x6) else (impl_compareWords.j1 k x0 x1 x5 x6 false)
def impl_compareWords.j1 : Nat → ByteArray → ByteArray → Bool → Bool → Bool → Option (Int)
 | 0, _, _, _, _, _ => none
 | k + 1, x0, x1, x5, x6, x19 => if x19 = true then ((cmp_Compare_int.f k (x0.size : Int) (x1.size : Int)).bind fun t358 => ((cmp_Compare_string.f k x0 x1).bind fun t359 => ((cmp_Or_int.f k (([t358, t359] : List Int))).bind fun t363 => (some t363)))) else (if x5 = true then (some (-1)) else (if x6 = true then (some 1) else ((cmp_Compare_string.f k x0 x1).bind fun t364 => (some t364))))
end
def impl_compareWords.f (k : Nat) (a0 : ByteArray) (a1 : ByteArray) : Option (Int) := if a0.toList = ([] : List UInt8) then (if a1.toList = ([] : List UInt8) then (impl_compareWords.j0 k a0 a1 true true) else ((impl_isFigures.f k a1).bind fun t355 => (impl_compareWords.j0 k a0 a1 true t355))) else ((impl_isFigures.f k a0).bind fun t356 => (if a1.toList = ([] : List UInt8) then (impl_compareWords.j0 k a0 a1 t356 true) else ((impl_isFigures.f k a1).bind fun t357 => (impl_compareWords.j0 k a0 a1 t356 t357))))
theorem impl_compareWords.calls (k : Nat) (a0 : ByteArray) (a1 : ByteArray) (r : Int) (w : World) (h : impl_compareWords.f k a0 a1 = some r) :
  Calls Tryd.prog 36 #[.string a0, .string a1] w fun e w' => e = .returned (.int .i64 r) ∧ Below w.heap.size w w' := by
 have HB := zA (Below.refl w.heap.size w)
 have H : (if a0.toList = ([] : List UInt8) then (if a1.toList = ([] : List UInt8) then (impl_compareWords.j0 k a0 a1 true true) else ((impl_isFigures.f k a1).bind fun t355 => (impl_compareWords.j0 k a0 a1 true t355))) else ((impl_isFigures.f k a0).bind fun t356 => (if a1.toList = ([] : List UInt8) then (impl_compareWords.j0 k a0 a1 t356 true) else ((impl_isFigures.f k a1).bind fun t357 => (impl_compareWords.j0 k a0 a1 t356 t357))))) = some r := h
 clear h
 have HC3 := Aside0.mk H
 clear H
 go_enter Tryd.func36, Tryd.ntmps36
 go_upto_region 1 with (fail)
 go_cut [5, 6] (fun v5 v6 wc => ∃ (kq : Nat) (x5_2 : Bool) (x6_2 : Bool), v5 = .bool x5_2 ∧ v6 = .bool x6_2 ∧ Aside0 (impl_compareWords.j0 kq a0 a1 x5_2 x6_2 = some r) ∧ Aside0 (kq ≤ k) ∧ Aside0 (Below w.heap.size w wc))
 case first =>
  have H := HC3.out
  clear HC3
  by_cases c4 : a0.toList = ([] : List UInt8)
  ·rw [if_pos c4] at H
   have c4b0 : (a0.toList == ([] : List UInt8)) = true := beq_iff_eq.mpr c4
   have c4b1 : (a0.toList != ([] : List UInt8)) = false := bne_eq_false_iff_eq.mpr c4
   clear c4
   (first | rw [c4b0] | (simp only [i64_w, i32_w]; rw [c4b0]) | rw [show a0.toList.isEmpty = true from by simpa using c4b0] | skip)
   by_cases c5 : a1.toList = ([] : List UInt8)
   ·rw [if_pos c5] at H
    have c5b0 : (a1.toList == ([] : List UInt8)) = true := beq_iff_eq.mpr c5
    have c5b1 : (a1.toList != ([] : List UInt8)) = false := bne_eq_false_iff_eq.mpr c5
    clear c5
    have H' := Aside0.mk H
    clear H
    go_wp2
    go_meet
    case rel => exact ⟨_, (true), (true), zS, zS, (by first | exact H' | (subst_vars; exact H')), ⟨by first | omega | exact Nat.le_refl _⟩, ⟨zB⟩⟩
   ·rw [if_neg c5] at H
    have c5b0 : (a1.toList == ([] : List UInt8)) = false := beq_eq_false_iff_ne.mpr c5
    have c5b1 : (a1.toList != ([] : List UInt8)) = true := bne_iff_ne.mpr c5
    replace H := Option.bind_eq_some_iff.mp H
    obtain ⟨t355, A60, H⟩ := H
    try dsimp only at H
    have A6 := Aside0.mk A60
    clear A60
    have H' := Aside0.mk H
    clear H
    go_wp2_with (first | (go_at_call 55; (with_reducible refine (impl_isFigures.calls k a1 t355 _ A6.out).mono ?_); rintro e w' ⟨rfl, ⟨nd, rfl⟩⟩))
    go_meet
    case rel => exact ⟨_, (true), (t355), zS, zS, (by first | exact H' | (subst_vars; exact H')), ⟨by first | omega | exact Nat.le_refl _⟩, ⟨zB⟩⟩
  ·rw [if_neg c4] at H
   have c4b0 : (a0.toList == ([] : List UInt8)) = false := beq_eq_false_iff_ne.mpr c4
   have c4b1 : (a0.toList != ([] : List UInt8)) = true := bne_iff_ne.mpr c4
   (first | rw [c4b0] | (simp only [i64_w, i32_w]; rw [c4b0]) | rw [show a0.toList.isEmpty = false from by simpa using c4b0] | skip)
   replace H := Option.bind_eq_some_iff.mp H
   obtain ⟨t356, A70, H⟩ := H
   try dsimp only at H
   have A7 := Aside0.mk A70
   clear A70
   by_cases c8 : a1.toList = ([] : List UInt8)
   ·rw [if_pos c8] at H
    have c8b0 : (a1.toList == ([] : List UInt8)) = true := beq_iff_eq.mpr c8
    have c8b1 : (a1.toList != ([] : List UInt8)) = false := bne_eq_false_iff_eq.mpr c8
    clear c8
    have H' := Aside0.mk H
    clear H
    go_wp2_with (first | (go_at_call 55; (with_reducible refine (impl_isFigures.calls k a0 t356 _ A7.out).mono ?_); rintro e w' ⟨rfl, ⟨nd, rfl⟩⟩))
    go_meet
    case rel => exact ⟨_, (t356), (true), zS, zS, (by first | exact H' | (subst_vars; exact H')), ⟨by first | omega | exact Nat.le_refl _⟩, ⟨zB⟩⟩
   ·rw [if_neg c8] at H
    have c8b0 : (a1.toList == ([] : List UInt8)) = false := beq_eq_false_iff_ne.mpr c8
    have c8b1 : (a1.toList != ([] : List UInt8)) = true := bne_iff_ne.mpr c8
    replace H := Option.bind_eq_some_iff.mp H
    obtain ⟨t357, A90, H⟩ := H
    try dsimp only at H
    have A9 := Aside0.mk A90
    clear A90
    have H' := Aside0.mk H
    clear H
    go_wp2_with (first | (go_at_call 55; (with_reducible refine (impl_isFigures.calls k a0 t356 _ A7.out).mono ?_); rintro e w' ⟨rfl, ⟨nd, rfl⟩⟩) | (go_at_call 55; (with_reducible refine (impl_isFigures.calls k a1 t357 _ A9.out).mono ?_); rintro e w' ⟨rfl, ⟨nd, rfl⟩⟩))
    go_meet
    case rel => exact ⟨_, (t356), (t357), zS, zS, (by first | exact H' | (subst_vars; exact H')), ⟨by first | omega | exact Nat.le_refl _⟩, ⟨zB⟩⟩
 case rest =>
  clear HC3
  try clear p2
  try clear c3
  try clear c4
  try clear c4b0
  try clear c4b1
  try clear c5
  try clear c5b0
  try clear c5b1
  try clear c8
  try clear c8b0
  try clear c8b1
  obtain ⟨kq, x5_2, x6_2, rfl, rfl, HA, HJ2, HB⟩ := hcut
  cases kq with
  | zero => exact absurd HA.out (by simp [impl_compareWords.j0])
  | succ kj2 =>
   have H := HA.out
   clear HA
   simp only [impl_compareWords.j0] at H
   have HC10 := Aside0.mk H
   clear H
   go_upto_region 2 with (fail)
   go_cut [19] (fun v19 wc => ∃ (kq : Nat) (x19_9 : Bool), v19 = .bool x19_9 ∧ Aside0 (impl_compareWords.j1 kq a0 a1 x5_2 x6_2 x19_9 = some r) ∧ Aside0 (kq ≤ kj2) ∧ Aside0 (Below w.heap.size w wc))
   case first =>
    have H := HC10.out
    clear HC10
    by_cases c11 : x5_2 = true
    ·subst c11
     rw [if_pos rfl] at H
     have H' := Aside0.mk H
     clear H
     go_wp2
     go_meet
     case rel => exact ⟨_, (x6_2), zS, (by first | exact H' | (subst_vars; exact H')), ⟨by have := HJ2.out; first | omega | exact Nat.le_refl _⟩, ⟨zB⟩⟩
    ·replace c11 := Bool.eq_false_iff.mpr c11
     subst c11
     rw [if_neg zFT] at H
     have H' := Aside0.mk H
     clear H
     go_wp2
     go_meet
     case rel => exact ⟨_, (false), zS, (by first | exact H' | (subst_vars; exact H')), ⟨by have := HJ2.out; first | omega | exact Nat.le_refl _⟩, ⟨zB⟩⟩
   case rest =>
    clear HC10
    try clear c1
    try clear p2
    try clear c3
    try clear c4
    try clear c4b0
    try clear c4b1
    try clear c5
    try clear c5b0
    try clear c5b1
    try clear c8
    try clear c8b0
    try clear c8b1
    try clear c11
    try clear p2
    obtain ⟨kq, x19_9, rfl, HA, HJ9, HB⟩ := hcut
    cases kq with
    | zero => exact absurd HA.out (by simp [impl_compareWords.j1])
    | succ kj9 =>
     have H := HA.out
     clear HA
     simp only [impl_compareWords.j1] at H
     by_cases c12 : x19_9 = true
     ·subst c12
      rw [if_pos rfl] at H
      replace H := Option.bind_eq_some_iff.mp H
      obtain ⟨t358, A130, H⟩ := H
      try dsimp only at H
      have A13 := Aside0.mk A130
      clear A130
      replace H := Option.bind_eq_some_iff.mp H
      obtain ⟨t359, A140, H⟩ := H
      try dsimp only at H
      have A14 := Aside0.mk A140
      clear A140
      obtain ⟨y360, hy360⟩ : ∃ y_ : List Int, y_ = (([t358, t359] : List Int)) := ⟨_, rfl⟩
      replace H : ((cmp_Or_int.f kj9 y360).bind fun t363 => (some t363)) = some r := by first | (rw [hy360]; with_reducible exact H) | (have H2_ := (Option.bind_some _ _).symm.trans H; rw [hy360]; with_reducible exact H2_) | (have H2_ := (Option.bind_some _ _).symm.trans H; with_reducible exact H2_) | with_reducible exact H | (rw [hy360]; exact H) | exact H
      have Ny360 := Aside0.mk hy360
      clear hy360
      replace H := Option.bind_eq_some_iff.mp H
      obtain ⟨t363, A150, H⟩ := H
      try dsimp only at H
      have A15 := Aside0.mk A150
      clear A150
      obtain rfl := Option.some.inj H
      go_wp2_with (first | ((with_reducible refine zq 34 ?_); refine zg (some 28) Tryd.func34 #[.int .i64 (a0.size : Int), .int .i64 (a1.size : Int)] ?_; (with_reducible refine (cmp_Compare_int.calls kj9 (a0.size : Int) (a1.size : Int) t358 _ A13.out).mono ?_); rintro e w' ⟨rfl, ⟨nd, rfl⟩⟩; refine ⟨_, rfl, ?_⟩) | ((with_reducible refine zq 60 ?_); refine zg (some 31) Tryd.func60 #[.string a0, .string a1] ?_; (with_reducible refine (cmp_Compare_string.calls kj9 a0 a1 t359 _ A14.out).mono ?_); rintro e w' ⟨rfl, ⟨nd, rfl⟩⟩; refine ⟨_, rfl, ?_⟩) | ((with_reducible refine gate_dst (N := 32) rfl ?_); refine Kd.R_lit (Kd.int .i64) _ 3 ?hg (N := 32) ?hd (xs := ([t358, t359] : List Int)) (inner := [.int .i64 t358, .int .i64 t359]) (ok := fun _ => True) (okp := fun _ => True) ?hr ?hp (fun _ hk => hk) trivial (Below.refl _ _) (Nat.le_refl _) (by simp) ?_; (case hd => rfl); (case hg => rfl); (case hr => first | (go_simp; done) | (go_simp; rfl)); (case hp => exact (Reps.one (show Kd.M (Kd.int .i64) _ _ _ t358 [.int .i64 t358] from rfl) (Reps.one (show Kd.M (Kd.int .i64) _ _ _ t359 [.int .i64 t359] from rfl) (Reps.none _ _)))); intro v361 w16 ho17 hb hg_ hnew_; clear hg_ hnew_; (first | rw [← Ny360.out] at ho17 | (simp only [Int.reduceToNat] at ho17; rw [← Ny360.out] at ho17)); have HO362 := zA (Kd.R_lower ho17 (below_size (zB))); replace HB := zA (below_step (zB) hb); clear hb ho17; obtain ⟨Ao18, co18, eo18⟩ := Kd.R_slice HO362.out; subst eo18) | ((with_reducible refine zq 33 ?_); refine zg (some 33) Tryd.func33 #[.slice Ao18 y360.length co18] ?_; (with_reducible refine (cmp_Or_int.calls kj9 _ _ y360 t363 _ ?side1 ?side2 A15.out).mono ?_); (case side1 => repeat (first | exact (Kd.R_reads' HO362.out).2.2 | (with_reducible refine Kd.C_alloc ?_ _) | (with_reducible refine Kd.C_drewN ?_ _) | (with_reducible refine Kd.C_drew ?_))); (case side2 => exact (Kd.R_reads' HO362.out).2.1); rintro e w' ⟨rfl, ⟨nd, rfl⟩⟩; refine ⟨_, rfl, ?_⟩))
      go_ret
      exact ⟨zE, zB⟩
     ·replace c12 := Bool.eq_false_iff.mpr c12
      subst c12
      rw [if_neg zFT] at H
      by_cases c19 : x5_2 = true
      ·subst c19
       rw [if_pos rfl] at H
       obtain rfl := Option.some.inj H
       go_wp2
       go_ret
       exact ⟨zE, zB⟩
      ·replace c19 := Bool.eq_false_iff.mpr c19
       subst c19
       rw [if_neg zFT] at H
       by_cases c20 : x6_2 = true
       ·subst c20
        rw [if_pos rfl] at H
        obtain rfl := Option.some.inj H
        go_wp2
        go_ret
        exact ⟨zE, zB⟩
       ·replace c20 := Bool.eq_false_iff.mpr c20
        subst c20
        rw [if_neg zFT] at H
        replace H := Option.bind_eq_some_iff.mp H
        obtain ⟨t364, A210, H⟩ := H
        try dsimp only at H
        have A21 := Aside0.mk A210
        clear A210
        obtain rfl := Option.some.inj H
        go_wp2_with (first | ((with_reducible refine zq 60 ?_); refine zg (some 40) Tryd.func60 #[.string a0, .string a1] ?_; (with_reducible refine (cmp_Compare_string.calls kj9 a0 a1 t364 _ A21.out).mono ?_); rintro e w' ⟨rfl, ⟨nd, rfl⟩⟩; refine ⟨_, rfl, ?_⟩))
        go_ret
        exact ⟨zE, zB⟩
end Go.Proofs.YtpcdhoeoefoeoaaDoor.PGA
