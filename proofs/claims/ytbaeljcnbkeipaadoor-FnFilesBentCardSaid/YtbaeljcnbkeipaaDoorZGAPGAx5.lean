/- The walks of the functions that these laws reach, and what each comes to: printed by this session's program. -/
import Derived.Test.YtbaeljcnbkeipaaDoorZGAPGAx0
import Derived.Test.YtbaeljcnbkeipaaDoorZGAPGAx2
import Derived.Test.YtbaeljcnbkeipaaDoorZGASays
namespace Go.Proofs.YtbaeljcnbkeipaaDoor.PGA
open Go.RowKit YtbaeljcnbkeipaaDoorW.PrintWords YtbaeljcnbkeipaaDoorW.PrintLast YtbaeljcnbkeipaaDoorW.PrintMore
attribute [local go_sem high] Mine.str_gtr Mine.str_leq Mine.str_geq
attribute [local go_sem] max2_int min2_int max_two min_two max_three min_three max_four min_four   -- for this text's walks alone
set_option linter.unusedVariables false
set_option maxHeartbeats 8000000
set_option maxRecDepth 100000
set_option linter.unusedSimpArgs false
/-! ### spec_l5Put: function 57 -/
mutual
def spec_l5Put.l0 : Nat → List (S31) → List (S31) → Bool → Int → ByteArray → ByteArray → Option ((List (S31)))
 | 0, _, _, _, _, _, _ => none
 | k + 1, x0, x5, x6, x7, a0, a1 => if x7 < (x0.length : Int) then (spec_l5Put.j1 k x0 x5 x6 x7 a0 a1) else (if x6 = true then (some x5) else (if x5.length < 4398046511104 then (some (x5 ++ [(⟨a0, a1⟩ : S31)])) else (none)))
def spec_l5Put.j1 : Nat → List (S31) → List (S31) → Bool → Int → ByteArray → ByteArray → Option ((List (S31)))
 | 0, _, _, _, _, _, _ => none
 | k + 1, x0, x5, x6, x7, a0, a1 => if 0 ≤ x7 then (if x7 < (x0.length : Int) then (if ((rd_T31 x0 x7).f0).toList = a0.toList then (spec_l5Put.l0 k x0 x5 x6 (wrap64 (x7 + 1)) a0 a1) else (if x6 = true then (if x5.length < 4398046511104 then (spec_l5Put.l0 k x0 (x5 ++ [(⟨(rd_T31 x0 x7).f0, (rd_T31 x0 x7).f1⟩ : S31)]) x6 (wrap64 (x7 + 1)) a0 a1) else (none)) else (if (Op.bytesLess a0.toList (((rd_T31 x0 x7).f0).toList)) = true then (if x5.length < 4398046511104 then ((some (x5 ++ [(⟨a0, a1⟩ : S31)] : List (S31))).bind fun a2 => (if a2.length < 4398046511104 then (spec_l5Put.l0 k x0 (a2 ++ [(⟨(rd_T31 x0 x7).f0, (rd_T31 x0 x7).f1⟩ : S31)]) true (wrap64 (x7 + 1)) a0 a1) else (none))) else (none)) else (if x5.length < 4398046511104 then (spec_l5Put.l0 k x0 (x5 ++ [(⟨(rd_T31 x0 x7).f0, (rd_T31 x0 x7).f1⟩ : S31)]) x6 (wrap64 (x7 + 1)) a0 a1) else (none))))) else (none)) else (none)
end
def spec_l5Put.f (k : Nat) (l0 : List (S31)) (a0 a1 : ByteArray) : Option ((List (S31))) := spec_l5Put.l0 k l0 (([] : List (S31))) false 0 a0 a1
theorem spec_l5Put.calls (k : Nat) (A0 : Option Addr) (c0 : Nat) (l0 : List (S31)) (a2 a3 : ByteArray) (r : List (S31)) (w : World) (h1 : Kd.C k31 w A0 l0.length l0) (h2 : l0.length ≤ c0) (h : spec_l5Put.f k l0 a2 a3 = some r) :
  Calls Tryd.prog 57 #[.slice A0 l0.length c0, .agg #[.string a2, .string a3]] w fun e w' => ∃ h3 : Value, e = .returned (h3) ∧ Kd.R k31 31 w' w.heap.size (fun _ => True) h3 r ∧ Below w.heap.size w w' := by
 have l3 := Tryd.underlying31
 have b0 := zA h1
 have l4 := zA h2
 clear h1 h2
 have HB := zA (Below.refl w.heap.size w)
 unfold spec_l5Put.f at h
 have H := h
 clear h
 obtain ⟨h4, e1⟩ : ∃ y_ : List (S31), y_ = (([] : List (S31))) := ⟨_, rfl⟩
 replace H : (spec_l5Put.l0 k l0 h4 false 0 a2 a3) = some r := zY e1 H
 have d0 := zA e1
 clear e1
 have H' := zA H
 clear H
 go_enter Tryd.func57, Tryd.ntmps57
 go_wp2_with (first | ((with_reducible refine zd 3 ?_); refine ze 3 31 #[.string a2, .string a3] ?_; intro a5 hg w3 hbox hb; have a1 := zA (hbox); have h5 := zi HB hg; have h6 := zi HB hg; replace HB := zA (below_step (zB) hb); clear hb hbox hg) | ((with_reducible refine gate_dst (N := 8) rfl ?_); refine Kd.R_lit k31 _ 31 ?hg (N := 8) ?hd (xs := ([] : List (S31))) (inner := []) (ok := fun _ => True) ?hr ?hp (fun _ hk => hk) trivial (Below.refl _ _) (Nat.le_refl _) (by simp) ?_; (case hd => rfl); (case hg => rfl); (case hr => first | (go_simp; done) | (go_simp; rfl)); (case hp => exact (Reps.none _ _)); intro h7 w4 a7 hb hg_ hnew_; clear hg_ hnew_; (first | rw [← d0.out] at a7 | (simp only [Int.reduceToNat] at a7; rw [← d0.out] at a7)); have e2 := zA (Kd.R_lower (Kd.R_newB a7 (g := a5) (o := .cells #[.string a2, .string a3] 31 (0, 0)) (zK a1.out)) (below_size (zW HB.out))); replace a1 := zb a1 hb; replace HB := zh HB hb; clear hb a7))
 repeat (go_quiet (first | ((with_reducible refine zd 3 ?_); refine ze 3 31 #[.string a2, .string a3] ?_; intro a5 hg w3 hbox hb; have a1 := zA (hbox); have h5 := zi HB hg; have h6 := zi HB hg; replace HB := zA (below_step (zB) hb); clear hb hbox hg) | ((with_reducible refine gate_dst (N := 8) rfl ?_); refine Kd.R_lit k31 _ 31 ?hg (N := 8) ?hd (xs := ([] : List (S31))) (inner := []) (ok := fun _ => True) ?hr ?hp (fun _ hk => hk) trivial (Below.refl _ _) (Nat.le_refl _) (by simp) ?_; (case hd => rfl); (case hg => rfl); (case hr => first | (go_simp; done) | (go_simp; rfl)); (case hp => exact (Reps.none _ _)); intro h7 w4 a7 hb hg_ hnew_; clear hg_ hnew_; (first | rw [← d0.out] at a7 | (simp only [Int.reduceToNat] at a7; rw [← d0.out] at a7)); have e2 := zA (Kd.R_lower (Kd.R_newB a7 (g := a5) (o := .cells #[.string a2, .string a3] 31 (0, 0)) (zK a1.out)) (below_size (zW HB.out))); replace a1 := zb a1 hb; replace HB := zh HB hb; clear hb a7)); try go_wp2_with (first | ((with_reducible refine zd 3 ?_); refine ze 3 31 #[.string a2, .string a3] ?_; intro a5 hg w3 hbox hb; have a1 := zA (hbox); have h5 := zi HB hg; have h6 := zi HB hg; replace HB := zA (below_step (zB) hb); clear hb hbox hg) | ((with_reducible refine gate_dst (N := 8) rfl ?_); refine Kd.R_lit k31 _ 31 ?hg (N := 8) ?hd (xs := ([] : List (S31))) (inner := []) (ok := fun _ => True) ?hr ?hp (fun _ hk => hk) trivial (Below.refl _ _) (Nat.le_refl _) (by simp) ?_; (case hd => rfl); (case hg => rfl); (case hr => first | (go_simp; done) | (go_simp; rfl)); (case hp => exact (Reps.none _ _)); intro h7 w4 a7 hb hg_ hnew_; clear hg_ hnew_; (first | rw [← d0.out] at a7 | (simp only [Int.reduceToNat] at a7; rw [← d0.out] at a7)); have e2 := zA (Kd.R_lower (Kd.R_newB a7 (g := a5) (o := .cells #[.string a2, .string a3] 31 (0, 0)) (zK a1.out)) (below_size (zW HB.out))); replace a1 := zb a1 hb; replace HB := zh HB hb; clear hb a7)))
 go_loopg [5, 6, 7] k (fun kq v5 v6 v7 w' => ∃ (a6 : List (S31)) (d4 : Bool) (a0 : Int), v6 = .bool d4 ∧ v7 = .int .i64 a0 ∧ Aside0 (spec_l5Put.l0 kq l0 a6 d4 a0 a2 a3 = some r) ∧ Aside0 (kq ≤ k) ∧ Aside0 (Kd.R k31 31 w' w.heap.size (fun k_ => k_ ≠ a5) v5 a6) ∧ Aside0 (w'.heap[a5]? = some (.cells #[.string a2, .string a3] 31 (0, 0))) ∧ Aside0 (Below w.heap.size w w'))
 case atStart => exact ⟨(h4), (false), (0), zS, zS, H', ⟨Nat.le_refl _⟩, ⟨zR (Kd.R_mono e2.out (fun _ hk => hk.2))⟩, ⟨zK a1.out⟩, ⟨zW HB.out⟩⟩
 case round =>
  clear H'
  try clear p2
  try clear c5
  obtain ⟨a6, d4, a0, rfl, rfl, HA, b7, a4, a1, HB⟩ := hrel
  cases gk with
  | zero => exact absurd HA.out (by simp [spec_l5Put.l0])
  | succ k1 =>
   have H := HA.out; clear HA; simp only [spec_l5Put.l0] at H; have e3 := zA H; clear H
   go_upto_if 12 with (fail)
   repeat (go_quiet (fail); go_upto_if 12 with (fail))
   go_cut [] (fun wc => ∃ (kq : Nat), Aside0 (spec_l5Put.j1 kq l0 a6 d4 a0 a2 a3 = some r) ∧ Aside0 (kq ≤ k1) ∧ Aside0 (Kd.R k31 31 wc w.heap.size (fun k_ => k_ ≠ a5) u5 a6) ∧ Aside0 (wc.heap[a5]? = some (.cells #[.string a2, .string a3] 31 (0, 0))) ∧ Aside0 (Below w.heap.size w wc))
   case first =>
    have H := e3.out; clear e3; replace H := zI0 H
    rcases H with ⟨d1, H⟩ | ⟨d1, H⟩
    ·(first | rw [d1] | (simp only [i64_w, i32_w]; rw [d1]) | skip)
     have H' := zA H; clear H
     go_wp2
     repeat (go_quiet (fail); try go_wp2)
     go_meet
     case rel => exact ⟨_, (by first | exact H' | (subst_vars; exact H')), ⟨by have := b7.out; first | omega | exact Nat.le_refl _⟩, ⟨zR a4.out⟩, ⟨zK a1.out⟩, ⟨zW HB.out⟩⟩
    (first | rw [d1] | (simp only [i64_w, i32_w]; rw [d1]) | skip)
    replace H := zB0 H
    rcases H with ⟨rfl, H⟩ | ⟨rfl, H⟩
    ·obtain rfl := zm H
     go_wp2
     repeat (go_quiet (fail); try go_wp2)
     go_ret
     exact ⟨_, zE, zR (Kd.R_mono a4.out (fun _ hk => trivial)), zW HB.out⟩
    replace H := zC0 H; obtain ⟨c9, H⟩ := H; have e4 := zA c9; clear c9; obtain ⟨j9, e5⟩ : ∃ y_ : List (S31), y_ = (a6 ++ [(⟨a2, a3⟩ : S31)]) := ⟨_, rfl⟩; replace H : (some j9) = some r := zY e5 H; have e6 := zA e5; clear e5; obtain rfl := zm H; obtain ⟨k0, k2, k3, k4⟩ := ze2 a1.out
    go_wp2_with (first | ((with_reducible refine gate_builtin (b := .append) (xs := #[.tmp 48, .tmp 50]) rfl ?_); at_builtin; refine Kd.R_append k31 (w0 := w) w.heap.size rfl (.tmp 48) (.tmp 50) 27 31 (.agg #[(.string ⟨#[]⟩), (.string ⟨#[]⟩)]) 32 rfl Tryd.underlying27 info31 rfl (by decide) (by omega) u5 a6 (⟨a2, a3⟩ : S31) [.string a2, .string a3] (fun k_ => k_ ≠ a5) (fun _ => False) rfl rfl ?aP (fun _ hk => hk.elim) ?aF ?aO ?aB ?aS ?aL ?_; (case aP => exact k31_mkM _ _ _ (⟨a2, a3⟩ : S31)); (case aB => exact (zW HB.out)); (case aF => exact (fun k_ hk => Kd.freshB (zK a1.out) k_ hk)); (case aO => exact (zR a4.out)); (case aS => exact (below_size (zW HB.out))); (case aL => have := e4.out; omega); intro h8 h9 ho hb hg hat; rw [← e6.out] at ho; replace a1 := zA (blk_grown (g := a5) (o := .cells #[.string a2, .string a3] 31 (0, 0)) (zK a1.out) hg (Kd.R_away a4.out (fun _ hk => hk))); replace HB := zA (hb); have e7 := zA (ho); clear a4; clear ho hb hg hat))
    repeat (go_quiet (first | ((with_reducible refine gate_builtin (b := .append) (xs := #[.tmp 48, .tmp 50]) rfl ?_); at_builtin; refine Kd.R_append k31 (w0 := w) w.heap.size rfl (.tmp 48) (.tmp 50) 27 31 (.agg #[(.string ⟨#[]⟩), (.string ⟨#[]⟩)]) 32 rfl Tryd.underlying27 info31 rfl (by decide) (by omega) u5 a6 (⟨a2, a3⟩ : S31) [.string a2, .string a3] (fun k_ => k_ ≠ a5) (fun _ => False) rfl rfl ?aP (fun _ hk => hk.elim) ?aF ?aO ?aB ?aS ?aL ?_; (case aP => exact k31_mkM _ _ _ (⟨a2, a3⟩ : S31)); (case aB => exact (zW HB.out)); (case aF => exact (fun k_ hk => Kd.freshB (zK a1.out) k_ hk)); (case aO => exact (zR a4.out)); (case aS => exact (below_size (zW HB.out))); (case aL => have := e4.out; omega); intro h8 h9 ho hb hg hat; rw [← e6.out] at ho; replace a1 := zA (blk_grown (g := a5) (o := .cells #[.string a2, .string a3] 31 (0, 0)) (zK a1.out) hg (Kd.R_away a4.out (fun _ hk => hk))); replace HB := zA (hb); have e7 := zA (ho); clear a4; clear ho hb hg hat)); try go_wp2_with (first | ((with_reducible refine gate_builtin (b := .append) (xs := #[.tmp 48, .tmp 50]) rfl ?_); at_builtin; refine Kd.R_append k31 (w0 := w) w.heap.size rfl (.tmp 48) (.tmp 50) 27 31 (.agg #[(.string ⟨#[]⟩), (.string ⟨#[]⟩)]) 32 rfl Tryd.underlying27 info31 rfl (by decide) (by omega) u5 a6 (⟨a2, a3⟩ : S31) [.string a2, .string a3] (fun k_ => k_ ≠ a5) (fun _ => False) rfl rfl ?aP (fun _ hk => hk.elim) ?aF ?aO ?aB ?aS ?aL ?_; (case aP => exact k31_mkM _ _ _ (⟨a2, a3⟩ : S31)); (case aB => exact (zW HB.out)); (case aF => exact (fun k_ hk => Kd.freshB (zK a1.out) k_ hk)); (case aO => exact (zR a4.out)); (case aS => exact (below_size (zW HB.out))); (case aL => have := e4.out; omega); intro h8 h9 ho hb hg hat; rw [← e6.out] at ho; replace a1 := zA (blk_grown (g := a5) (o := .cells #[.string a2, .string a3] 31 (0, 0)) (zK a1.out) hg (Kd.R_away a4.out (fun _ hk => hk))); replace HB := zA (hb); have e7 := zA (ho); clear a4; clear ho hb hg hat)))
    go_ret
    exact ⟨_, zE, zR (Kd.R_mono e7.out (fun _ hk => trivial)), zW HB.out⟩
   case rest =>
    clear e3
    try clear p2
    try clear c5
    try clear c7
    try clear d1
    try clear c8
    try clear c9
    try clear k0 k2 k3 k4
    try clear p2
    obtain ⟨kq, HA, b8, a4, a1, HB⟩ := hcut
    cases kq with
    | zero => exact absurd HA.out (by simp [spec_l5Put.j1])
    | succ b9 =>
     have H := HA.out; clear HA; simp only [spec_l5Put.j1] at H; replace H := zD0 H; obtain ⟨l5, H⟩ := H; replace H := zD0 H; obtain ⟨l6, H⟩ := H; replace H := zI1 H
     rcases H with ⟨d2, H⟩ | ⟨d2, H⟩
     ·have k5 := beq_iff_eq.mpr d2; have k6 := bne_eq_false_iff_eq.mpr d2; clear d2; have H' := zA H; clear H; have a8 : 0 ≤ (a0 : Int) := zD; have a9 : a0 < (l0.length : Int) := zD; obtain ⟨b6, c3, b1, b2⟩ := at_T31 b0.out a0 a8 a9; cases c3; replace b1 := zx HB b1; replace b2 := zx HB b2; replace a8 := eq_true a8; replace a9 := eq_true a9; obtain ⟨l7, l8, l9, m0⟩ := ze2 a1.out
      go_wp2
      repeat (go_quiet (fail); try go_wp2)
      go_roundg b9
      case measure => have := b7.out; have := b8.out; omega
      case rel => exact ⟨(a6), (d4), (wrap64 (a0 + 1)), zS, zS, H', ⟨by have := b7.out; have := b8.out; omega⟩, ⟨zR a4.out⟩, ⟨zK a1.out⟩, ⟨zW HB.out⟩⟩
     have k5 := beq_eq_false_iff_ne.mpr d2; have k6 := bne_iff_ne.mpr d2; replace H := zB0 H
     rcases H with ⟨rfl, H⟩ | ⟨rfl, H⟩
     ·replace H := zC0 H; obtain ⟨i0, H⟩ := H; have e8 := zA i0; clear i0; obtain ⟨i1, e9⟩ : ∃ y_ : List (S31), y_ = (a6 ++ [(⟨(rd_T31 l0 a0).f0, (rd_T31 l0 a0).f1⟩ : S31)]) := ⟨_, rfl⟩; replace H : (spec_l5Put.l0 b9 l0 i1 true (wrap64 (a0 + 1)) a2 a3) = some r := zY e9 H; have f2 := zA e9; clear e9; have H' := zA H; clear H; have a8 : 0 ≤ (a0 : Int) := zD; have a9 : a0 < (l0.length : Int) := zD; obtain ⟨b6, c3, b1, b2⟩ := at_T31 b0.out a0 a8 a9; cases c3; replace b1 := zx HB b1; replace b2 := zx HB b2; replace a8 := eq_true a8; replace a9 := eq_true a9; obtain ⟨m1, m2, m3, m4⟩ := ze2 a1.out; have f3 : 0 ≤ (a0 : Int) := zD; have f4 : a0 < (l0.length : Int) := zD; obtain ⟨k7, k8, i2, i3⟩ := at_T31 b0.out a0 f3 f4; obtain rfl : b6 = k7 := (by injection k8); replace i2 := zx HB i2; replace i3 := zx HB i3; replace f3 := eq_true f3; replace f4 := eq_true f4
      go_wp2_with (first | ((with_reducible refine gate_builtin (b := .append) (xs := #[.tmp 39, .tmp 44]) rfl ?_); at_builtin; refine Kd.R_append k31 (w0 := w) w.heap.size rfl (.tmp 39) (.tmp 44) 27 31 (.agg #[(.string ⟨#[]⟩), (.string ⟨#[]⟩)]) 32 rfl Tryd.underlying27 info31 rfl (by decide) (by omega) u5 a6 (⟨(rd_T31 l0 a0).f0, (rd_T31 l0 a0).f1⟩ : S31) [.string ((rd_T31 l0 a0).f0), .string ((rd_T31 l0 a0).f1)] (fun k_ => k_ ≠ a5) (fun _ => False) rfl rfl ?aP (fun _ hk => hk.elim) ?aF ?aO ?aB ?aS ?aL ?_; (case aP => exact k31_mkM _ _ _ (⟨(rd_T31 l0 a0).f0, (rd_T31 l0 a0).f1⟩ : S31)); (case aB => exact (zW HB.out)); (case aF => exact (fun k_ hk => Kd.freshB (zK a1.out) k_ hk)); (case aO => exact (zR a4.out)); (case aS => exact (below_size (zW HB.out))); (case aL => have := e8.out; omega); intro i4 i5 ho hb hg hat; rw [← f2.out] at ho; replace a1 := zA (blk_grown (g := a5) (o := .cells #[.string a2, .string a3] 31 (0, 0)) (zK a1.out) hg (Kd.R_away a4.out (fun _ hk => hk))); replace HB := zA (hb); have f5 := zA (ho); clear a4; clear ho hb hg hat))
      repeat (go_quiet (first | ((with_reducible refine gate_builtin (b := .append) (xs := #[.tmp 39, .tmp 44]) rfl ?_); at_builtin; refine Kd.R_append k31 (w0 := w) w.heap.size rfl (.tmp 39) (.tmp 44) 27 31 (.agg #[(.string ⟨#[]⟩), (.string ⟨#[]⟩)]) 32 rfl Tryd.underlying27 info31 rfl (by decide) (by omega) u5 a6 (⟨(rd_T31 l0 a0).f0, (rd_T31 l0 a0).f1⟩ : S31) [.string ((rd_T31 l0 a0).f0), .string ((rd_T31 l0 a0).f1)] (fun k_ => k_ ≠ a5) (fun _ => False) rfl rfl ?aP (fun _ hk => hk.elim) ?aF ?aO ?aB ?aS ?aL ?_; (case aP => exact k31_mkM _ _ _ (⟨(rd_T31 l0 a0).f0, (rd_T31 l0 a0).f1⟩ : S31)); (case aB => exact (zW HB.out)); (case aF => exact (fun k_ hk => Kd.freshB (zK a1.out) k_ hk)); (case aO => exact (zR a4.out)); (case aS => exact (below_size (zW HB.out))); (case aL => have := e8.out; omega); intro i4 i5 ho hb hg hat; rw [← f2.out] at ho; replace a1 := zA (blk_grown (g := a5) (o := .cells #[.string a2, .string a3] 31 (0, 0)) (zK a1.out) hg (Kd.R_away a4.out (fun _ hk => hk))); replace HB := zA (hb); have f5 := zA (ho); clear a4; clear ho hb hg hat)); try go_wp2_with (first | ((with_reducible refine gate_builtin (b := .append) (xs := #[.tmp 39, .tmp 44]) rfl ?_); at_builtin; refine Kd.R_append k31 (w0 := w) w.heap.size rfl (.tmp 39) (.tmp 44) 27 31 (.agg #[(.string ⟨#[]⟩), (.string ⟨#[]⟩)]) 32 rfl Tryd.underlying27 info31 rfl (by decide) (by omega) u5 a6 (⟨(rd_T31 l0 a0).f0, (rd_T31 l0 a0).f1⟩ : S31) [.string ((rd_T31 l0 a0).f0), .string ((rd_T31 l0 a0).f1)] (fun k_ => k_ ≠ a5) (fun _ => False) rfl rfl ?aP (fun _ hk => hk.elim) ?aF ?aO ?aB ?aS ?aL ?_; (case aP => exact k31_mkM _ _ _ (⟨(rd_T31 l0 a0).f0, (rd_T31 l0 a0).f1⟩ : S31)); (case aB => exact (zW HB.out)); (case aF => exact (fun k_ hk => Kd.freshB (zK a1.out) k_ hk)); (case aO => exact (zR a4.out)); (case aS => exact (below_size (zW HB.out))); (case aL => have := e8.out; omega); intro i4 i5 ho hb hg hat; rw [← f2.out] at ho; replace a1 := zA (blk_grown (g := a5) (o := .cells #[.string a2, .string a3] 31 (0, 0)) (zK a1.out) hg (Kd.R_away a4.out (fun _ hk => hk))); replace HB := zA (hb); have f5 := zA (ho); clear a4; clear ho hb hg hat)))
      go_roundg b9
      case measure => have := b7.out; have := b8.out; omega
      case rel => exact ⟨(i1), (true), (wrap64 (a0 + 1)), zS, zS, H', ⟨by have := b7.out; have := b8.out; omega⟩, ⟨zR f5.out⟩, ⟨zK a1.out⟩, ⟨zW HB.out⟩⟩
     replace H := zI1 H
     rcases H with ⟨d5, H⟩ | ⟨d5, H⟩
     ·have k9 : (Op.bytesLess a2.toList (((rd_T31 l0 a0).f0).toList)) = true := d5; clear d5; replace H := zC0 H; obtain ⟨i6, H⟩ := H; have f6 := zA i6; clear i6; obtain ⟨d3, f7⟩ : ∃ y_ : List (S31), y_ = (a6 ++ [(⟨a2, a3⟩ : S31)]) := ⟨_, rfl⟩; replace H : (if d3.length < 4398046511104 then (spec_l5Put.l0 b9 l0 (d3 ++ [(⟨(rd_T31 l0 a0).f0, (rd_T31 l0 a0).f1⟩ : S31)]) true (wrap64 (a0 + 1)) a2 a3) else (none)) = some r := zY f7 H; have f8 := zA f7; clear f7; replace H := zC0 H; obtain ⟨i7, H⟩ := H; have f9 := zA i7; clear i7; obtain ⟨i8, g0⟩ : ∃ y_ : List (S31), y_ = (d3 ++ [(⟨(rd_T31 l0 a0).f0, (rd_T31 l0 a0).f1⟩ : S31)]) := ⟨_, rfl⟩; replace H : (spec_l5Put.l0 b9 l0 i8 true (wrap64 (a0 + 1)) a2 a3) = some r := zY g0 H; have g1 := zA g0; clear g0; have H' := zA H; clear H; have a8 : 0 ≤ (a0 : Int) := zD; have a9 : a0 < (l0.length : Int) := zD; obtain ⟨b6, c3, b1, b2⟩ := at_T31 b0.out a0 a8 a9; cases c3; replace b1 := zx HB b1; replace b2 := zx HB b2; replace a8 := eq_true a8; replace a9 := eq_true a9; obtain ⟨m5, m6, m7, m8⟩ := ze2 a1.out; have c4 : 0 ≤ (a0 : Int) := zD; have c6 : a0 < (l0.length : Int) := zD; obtain ⟨g2, g3, d6, d7⟩ := at_T31 b0.out a0 c4 c6; obtain rfl : b6 = g2 := (by injection g3); replace d6 := zx HB d6; replace d7 := zx HB d7; replace c4 := eq_true c4; replace c6 := eq_true c6
      go_wp2_with (first | ((with_reducible refine gate_builtin (b := .append) (xs := #[.tmp 35, .tmp 37]) rfl ?_); at_builtin; refine Kd.R_append k31 (w0 := w) w.heap.size rfl (.tmp 35) (.tmp 37) 27 31 (.agg #[(.string ⟨#[]⟩), (.string ⟨#[]⟩)]) 32 rfl Tryd.underlying27 info31 rfl (by decide) (by omega) u5 a6 (⟨a2, a3⟩ : S31) [.string a2, .string a3] (fun k_ => k_ ≠ a5) (fun _ => False) rfl rfl ?aP (fun _ hk => hk.elim) ?aF ?aO ?aB ?aS ?aL ?_; (case aP => exact k31_mkM _ _ _ (⟨a2, a3⟩ : S31)); (case aB => exact (zW HB.out)); (case aF => exact (fun k_ hk => Kd.freshB (zK a1.out) k_ hk)); (case aO => exact (zR a4.out)); (case aS => exact (below_size (zW HB.out))); (case aL => have := f6.out; omega); intro d8 i9 ho hb hg hat; rw [← f8.out] at ho; replace a1 := zA (blk_grown (g := a5) (o := .cells #[.string a2, .string a3] 31 (0, 0)) (zK a1.out) hg (Kd.R_away a4.out (fun _ hk => hk))); replace HB := zA (hb); have b3 := zA (ho); clear a4; clear ho hb hg hat; have b4 : 0 ≤ (a0 : Int) := zD; have b5 : a0 < (l0.length : Int) := zD; obtain ⟨d9, e0, c1, c2⟩ := at_T31 b0.out a0 b4 b5; obtain rfl : b6 = d9 := (by injection e0); replace c1 := zx HB c1; replace c2 := zx HB c2; replace b4 := eq_true b4; replace b5 := eq_true b5) | ((with_reducible refine gate_builtin (b := .append) (xs := #[.tmp 39, .tmp 44]) rfl ?_); at_builtin; refine Kd.R_append k31 (w0 := w) w.heap.size rfl (.tmp 39) (.tmp 44) 27 31 (.agg #[(.string ⟨#[]⟩), (.string ⟨#[]⟩)]) 32 rfl Tryd.underlying27 info31 rfl (by decide) (by omega) d8 d3 (⟨(rd_T31 l0 a0).f0, (rd_T31 l0 a0).f1⟩ : S31) [.string ((rd_T31 l0 a0).f0), .string ((rd_T31 l0 a0).f1)] (fun k_ => k_ ≠ a5) (fun _ => False) rfl rfl ?aP (fun _ hk => hk.elim) ?aF ?aO ?aB ?aS ?aL ?_; (case aP => exact k31_mkM _ _ _ (⟨(rd_T31 l0 a0).f0, (rd_T31 l0 a0).f1⟩ : S31)); (case aB => exact (zW HB.out)); (case aF => exact (fun k_ hk => Kd.freshB (zK a1.out) k_ hk)); (case aO => exact (zR b3.out)); (case aS => exact (below_size (zW HB.out))); (case aL => have := f9.out; omega); intro j0 j2 ho hb hg hat; rw [← g1.out] at ho; replace a1 := zA (blk_grown (g := a5) (o := .cells #[.string a2, .string a3] 31 (0, 0)) (zK a1.out) hg (Kd.R_away b3.out (fun _ hk => hk))); replace HB := zA (hb); have g4 := zA (ho); clear b3; clear ho hb hg hat))
      repeat (go_quiet (first | ((with_reducible refine gate_builtin (b := .append) (xs := #[.tmp 35, .tmp 37]) rfl ?_); at_builtin; refine Kd.R_append k31 (w0 := w) w.heap.size rfl (.tmp 35) (.tmp 37) 27 31 (.agg #[(.string ⟨#[]⟩), (.string ⟨#[]⟩)]) 32 rfl Tryd.underlying27 info31 rfl (by decide) (by omega) u5 a6 (⟨a2, a3⟩ : S31) [.string a2, .string a3] (fun k_ => k_ ≠ a5) (fun _ => False) rfl rfl ?aP (fun _ hk => hk.elim) ?aF ?aO ?aB ?aS ?aL ?_; (case aP => exact k31_mkM _ _ _ (⟨a2, a3⟩ : S31)); (case aB => exact (zW HB.out)); (case aF => exact (fun k_ hk => Kd.freshB (zK a1.out) k_ hk)); (case aO => exact (zR a4.out)); (case aS => exact (below_size (zW HB.out))); (case aL => have := f6.out; omega); intro d8 i9 ho hb hg hat; rw [← f8.out] at ho; replace a1 := zA (blk_grown (g := a5) (o := .cells #[.string a2, .string a3] 31 (0, 0)) (zK a1.out) hg (Kd.R_away a4.out (fun _ hk => hk))); replace HB := zA (hb); have b3 := zA (ho); clear a4; clear ho hb hg hat; have b4 : 0 ≤ (a0 : Int) := zD; have b5 : a0 < (l0.length : Int) := zD; obtain ⟨d9, e0, c1, c2⟩ := at_T31 b0.out a0 b4 b5; obtain rfl : b6 = d9 := (by injection e0); replace c1 := zx HB c1; replace c2 := zx HB c2; replace b4 := eq_true b4; replace b5 := eq_true b5) | ((with_reducible refine gate_builtin (b := .append) (xs := #[.tmp 39, .tmp 44]) rfl ?_); at_builtin; refine Kd.R_append k31 (w0 := w) w.heap.size rfl (.tmp 39) (.tmp 44) 27 31 (.agg #[(.string ⟨#[]⟩), (.string ⟨#[]⟩)]) 32 rfl Tryd.underlying27 info31 rfl (by decide) (by omega) d8 d3 (⟨(rd_T31 l0 a0).f0, (rd_T31 l0 a0).f1⟩ : S31) [.string ((rd_T31 l0 a0).f0), .string ((rd_T31 l0 a0).f1)] (fun k_ => k_ ≠ a5) (fun _ => False) rfl rfl ?aP (fun _ hk => hk.elim) ?aF ?aO ?aB ?aS ?aL ?_; (case aP => exact k31_mkM _ _ _ (⟨(rd_T31 l0 a0).f0, (rd_T31 l0 a0).f1⟩ : S31)); (case aB => exact (zW HB.out)); (case aF => exact (fun k_ hk => Kd.freshB (zK a1.out) k_ hk)); (case aO => exact (zR b3.out)); (case aS => exact (below_size (zW HB.out))); (case aL => have := f9.out; omega); intro j0 j2 ho hb hg hat; rw [← g1.out] at ho; replace a1 := zA (blk_grown (g := a5) (o := .cells #[.string a2, .string a3] 31 (0, 0)) (zK a1.out) hg (Kd.R_away b3.out (fun _ hk => hk))); replace HB := zA (hb); have g4 := zA (ho); clear b3; clear ho hb hg hat)); try go_wp2_with (first | ((with_reducible refine gate_builtin (b := .append) (xs := #[.tmp 35, .tmp 37]) rfl ?_); at_builtin; refine Kd.R_append k31 (w0 := w) w.heap.size rfl (.tmp 35) (.tmp 37) 27 31 (.agg #[(.string ⟨#[]⟩), (.string ⟨#[]⟩)]) 32 rfl Tryd.underlying27 info31 rfl (by decide) (by omega) u5 a6 (⟨a2, a3⟩ : S31) [.string a2, .string a3] (fun k_ => k_ ≠ a5) (fun _ => False) rfl rfl ?aP (fun _ hk => hk.elim) ?aF ?aO ?aB ?aS ?aL ?_; (case aP => exact k31_mkM _ _ _ (⟨a2, a3⟩ : S31)); (case aB => exact (zW HB.out)); (case aF => exact (fun k_ hk => Kd.freshB (zK a1.out) k_ hk)); (case aO => exact (zR a4.out)); (case aS => exact (below_size (zW HB.out))); (case aL => have := f6.out; omega); intro d8 i9 ho hb hg hat; rw [← f8.out] at ho; replace a1 := zA (blk_grown (g := a5) (o := .cells #[.string a2, .string a3] 31 (0, 0)) (zK a1.out) hg (Kd.R_away a4.out (fun _ hk => hk))); replace HB := zA (hb); have b3 := zA (ho); clear a4; clear ho hb hg hat; have b4 : 0 ≤ (a0 : Int) := zD; have b5 : a0 < (l0.length : Int) := zD; obtain ⟨d9, e0, c1, c2⟩ := at_T31 b0.out a0 b4 b5; obtain rfl : b6 = d9 := (by injection e0); replace c1 := zx HB c1; replace c2 := zx HB c2; replace b4 := eq_true b4; replace b5 := eq_true b5) | ((with_reducible refine gate_builtin (b := .append) (xs := #[.tmp 39, .tmp 44]) rfl ?_); at_builtin; refine Kd.R_append k31 (w0 := w) w.heap.size rfl (.tmp 39) (.tmp 44) 27 31 (.agg #[(.string ⟨#[]⟩), (.string ⟨#[]⟩)]) 32 rfl Tryd.underlying27 info31 rfl (by decide) (by omega) d8 d3 (⟨(rd_T31 l0 a0).f0, (rd_T31 l0 a0).f1⟩ : S31) [.string ((rd_T31 l0 a0).f0), .string ((rd_T31 l0 a0).f1)] (fun k_ => k_ ≠ a5) (fun _ => False) rfl rfl ?aP (fun _ hk => hk.elim) ?aF ?aO ?aB ?aS ?aL ?_; (case aP => exact k31_mkM _ _ _ (⟨(rd_T31 l0 a0).f0, (rd_T31 l0 a0).f1⟩ : S31)); (case aB => exact (zW HB.out)); (case aF => exact (fun k_ hk => Kd.freshB (zK a1.out) k_ hk)); (case aO => exact (zR b3.out)); (case aS => exact (below_size (zW HB.out))); (case aL => have := f9.out; omega); intro j0 j2 ho hb hg hat; rw [← g1.out] at ho; replace a1 := zA (blk_grown (g := a5) (o := .cells #[.string a2, .string a3] 31 (0, 0)) (zK a1.out) hg (Kd.R_away b3.out (fun _ hk => hk))); replace HB := zA (hb); have g4 := zA (ho); clear b3; clear ho hb hg hat)))
      go_roundg b9
      case measure => have := b7.out; have := b8.out; omega
      case rel => exact ⟨(i8), (true), (wrap64 (a0 + 1)), zS, zS, H', ⟨by have := b7.out; have := b8.out; omega⟩, ⟨zR g4.out⟩, ⟨zK a1.out⟩, ⟨zW HB.out⟩⟩
     have k9 : (Op.bytesLess a2.toList (((rd_T31 l0 a0).f0).toList)) = false := by simpa using d5
     clear d5; replace H := zC0 H; obtain ⟨j3, H⟩ := H; have g5 := zA j3; clear j3; obtain ⟨j4, g6⟩ : ∃ y_ : List (S31), y_ = (a6 ++ [(⟨(rd_T31 l0 a0).f0, (rd_T31 l0 a0).f1⟩ : S31)]) := ⟨_, rfl⟩; replace H : (spec_l5Put.l0 b9 l0 j4 false (wrap64 (a0 + 1)) a2 a3) = some r := zY g6 H; have g7 := zA g6; clear g6; have H' := zA H; clear H; have a8 : 0 ≤ (a0 : Int) := zD; have a9 : a0 < (l0.length : Int) := zD; obtain ⟨b6, c3, b1, b2⟩ := at_T31 b0.out a0 a8 a9; cases c3; replace b1 := zx HB b1; replace b2 := zx HB b2; replace a8 := eq_true a8; replace a9 := eq_true a9; obtain ⟨m9, n0, n1, n2⟩ := ze2 a1.out; have c4 : 0 ≤ (a0 : Int) := zD; have c6 : a0 < (l0.length : Int) := zD; obtain ⟨g2, g3, d6, d7⟩ := at_T31 b0.out a0 c4 c6; obtain rfl : b6 = g2 := (by injection g3); replace d6 := zx HB d6; replace d7 := zx HB d7; replace c4 := eq_true c4; replace c6 := eq_true c6; have g8 : 0 ≤ (a0 : Int) := zD; have g9 : a0 < (l0.length : Int) := zD; obtain ⟨l1, l2, j5, j6⟩ := at_T31 b0.out a0 g8 g9; obtain rfl : b6 = l1 := (by injection l2); replace j5 := zx HB j5; replace j6 := zx HB j6; replace g8 := eq_true g8; replace g9 := eq_true g9
     go_wp2_with (first | ((with_reducible refine gate_builtin (b := .append) (xs := #[.tmp 39, .tmp 44]) rfl ?_); at_builtin; refine Kd.R_append k31 (w0 := w) w.heap.size rfl (.tmp 39) (.tmp 44) 27 31 (.agg #[(.string ⟨#[]⟩), (.string ⟨#[]⟩)]) 32 rfl Tryd.underlying27 info31 rfl (by decide) (by omega) u5 a6 (⟨(rd_T31 l0 a0).f0, (rd_T31 l0 a0).f1⟩ : S31) [.string ((rd_T31 l0 a0).f0), .string ((rd_T31 l0 a0).f1)] (fun k_ => k_ ≠ a5) (fun _ => False) rfl rfl ?aP (fun _ hk => hk.elim) ?aF ?aO ?aB ?aS ?aL ?_; (case aP => exact k31_mkM _ _ _ (⟨(rd_T31 l0 a0).f0, (rd_T31 l0 a0).f1⟩ : S31)); (case aB => exact (zW HB.out)); (case aF => exact (fun k_ hk => Kd.freshB (zK a1.out) k_ hk)); (case aO => exact (zR a4.out)); (case aS => exact (below_size (zW HB.out))); (case aL => have := g5.out; omega); intro j7 j8 ho hb hg hat; rw [← g7.out] at ho; replace a1 := zA (blk_grown (g := a5) (o := .cells #[.string a2, .string a3] 31 (0, 0)) (zK a1.out) hg (Kd.R_away a4.out (fun _ hk => hk))); replace HB := zA (hb); have h0 := zA (ho); clear a4; clear ho hb hg hat))
     repeat (go_quiet (first | ((with_reducible refine gate_builtin (b := .append) (xs := #[.tmp 39, .tmp 44]) rfl ?_); at_builtin; refine Kd.R_append k31 (w0 := w) w.heap.size rfl (.tmp 39) (.tmp 44) 27 31 (.agg #[(.string ⟨#[]⟩), (.string ⟨#[]⟩)]) 32 rfl Tryd.underlying27 info31 rfl (by decide) (by omega) u5 a6 (⟨(rd_T31 l0 a0).f0, (rd_T31 l0 a0).f1⟩ : S31) [.string ((rd_T31 l0 a0).f0), .string ((rd_T31 l0 a0).f1)] (fun k_ => k_ ≠ a5) (fun _ => False) rfl rfl ?aP (fun _ hk => hk.elim) ?aF ?aO ?aB ?aS ?aL ?_; (case aP => exact k31_mkM _ _ _ (⟨(rd_T31 l0 a0).f0, (rd_T31 l0 a0).f1⟩ : S31)); (case aB => exact (zW HB.out)); (case aF => exact (fun k_ hk => Kd.freshB (zK a1.out) k_ hk)); (case aO => exact (zR a4.out)); (case aS => exact (below_size (zW HB.out))); (case aL => have := g5.out; omega); intro j7 j8 ho hb hg hat; rw [← g7.out] at ho; replace a1 := zA (blk_grown (g := a5) (o := .cells #[.string a2, .string a3] 31 (0, 0)) (zK a1.out) hg (Kd.R_away a4.out (fun _ hk => hk))); replace HB := zA (hb); have h0 := zA (ho); clear a4; clear ho hb hg hat)); try go_wp2_with (first | ((with_reducible refine gate_builtin (b := .append) (xs := #[.tmp 39, .tmp 44]) rfl ?_); at_builtin; refine Kd.R_append k31 (w0 := w) w.heap.size rfl (.tmp 39) (.tmp 44) 27 31 (.agg #[(.string ⟨#[]⟩), (.string ⟨#[]⟩)]) 32 rfl Tryd.underlying27 info31 rfl (by decide) (by omega) u5 a6 (⟨(rd_T31 l0 a0).f0, (rd_T31 l0 a0).f1⟩ : S31) [.string ((rd_T31 l0 a0).f0), .string ((rd_T31 l0 a0).f1)] (fun k_ => k_ ≠ a5) (fun _ => False) rfl rfl ?aP (fun _ hk => hk.elim) ?aF ?aO ?aB ?aS ?aL ?_; (case aP => exact k31_mkM _ _ _ (⟨(rd_T31 l0 a0).f0, (rd_T31 l0 a0).f1⟩ : S31)); (case aB => exact (zW HB.out)); (case aF => exact (fun k_ hk => Kd.freshB (zK a1.out) k_ hk)); (case aO => exact (zR a4.out)); (case aS => exact (below_size (zW HB.out))); (case aL => have := g5.out; omega); intro j7 j8 ho hb hg hat; rw [← g7.out] at ho; replace a1 := zA (blk_grown (g := a5) (o := .cells #[.string a2, .string a3] 31 (0, 0)) (zK a1.out) hg (Kd.R_away a4.out (fun _ hk => hk))); replace HB := zA (hb); have h0 := zA (ho); clear a4; clear ho hb hg hat)))
     go_roundg b9
     case measure => have := b7.out; have := b8.out; omega
     case rel => exact ⟨(j4), (false), (wrap64 (a0 + 1)), zS, zS, H', ⟨by have := b7.out; have := b8.out; omega⟩, ⟨zR h0.out⟩, ⟨zK a1.out⟩, ⟨zW HB.out⟩⟩
/-! ### spec_PutFile: function 10 -/
def spec_PutFile.f (k : Nat) (l0 : List (S31)) (a2 a3 : ByteArray) : Option ((List (S31)) × Bool) := (spec_l5Put.f k l0 a2 a3).bind fun a0 => ((spec_FilesOk.f k a0).bind fun a4 => (if a4 = true then (some (a0, true)) else ((some (([] : List (S31)) : List (S31))).bind fun a1 => (if a1.length + l0.length < 4398046511104 then (some ((a1 ++ l0), false)) else (none)))))
theorem spec_PutFile.calls (k : Nat) (A0 : Option Addr) (c0 : Nat) (l0 : List (S31)) (a2 a3 : ByteArray) (r1 : List (S31)) (r2 : Bool) (w : World) (b3 : Kd.C k31 w A0 l0.length l0) (b4 : l0.length ≤ c0) (h : spec_PutFile.f k l0 a2 a3 = some (r1, r2)) :
  Calls Tryd.prog 10 #[.slice A0 l0.length c0, .agg #[.string a2, .string a3]] w fun e w' => ∃ b5 : Value, e = .returned (.tuple #[b5, .bool r2]) ∧ Kd.R k31 31 w' w.heap.size (fun _ => True) b5 r1 ∧ Below w.heap.size w w' := by
 have d6 := Tryd.underlying31
 have a9 := zA b3
 have b6 := zA b4
 clear b3 b4
 have HB := zA (Below.refl w.heap.size w)
 unfold spec_PutFile.f at h
 have H := h
 clear h
 replace H := Option.bind_eq_some_iff.mp H
 obtain ⟨a4, b7, H⟩ := H
 try dsimp only at H
 have A3 := zA b7
 clear b7
 replace H := Option.bind_eq_some_iff.mp H
 obtain ⟨d7, b8, H⟩ := H
 try dsimp only at H
 have A4 := zA b8
 clear b8
 replace H := zB0 H
 rcases H with ⟨rfl, H⟩ | ⟨rfl, H⟩
 ·simp only [zU] at H; obtain ⟨rfl, rfl⟩ := H
  go_enter Tryd.func10, Tryd.ntmps10
  go_wp2_with (first | ((with_reducible refine zd 3 ?_); refine ze 3 31 #[.string a2, .string a3] ?_; intro a5 hg w6 hbox hb; have a0 := zA (hbox); have c4 := zi HB hg; have c5 := zi HB hg; replace HB := zA (below_step (zB) hb); clear hb hbox hg; obtain ⟨d8, d9, e0, e1⟩ := ze2 a0.out) | ((with_reducible refine zq 57 ?_); refine zg (some 9) Tryd.func57 #[.slice A0 l0.length c0, .agg #[.string a2, .string a3]] ?_; (with_reducible refine (spec_l5Put.calls k _ _ l0 a2 a3 a4 _ ?s1 ?s2 A3.out).mono ?_); (case s1 => exact zC (Kd.C_below a9.out HB.out)); (case s2 => exact b6.out); rintro e w8 ⟨c6, rfl, a7, hb⟩; refine ⟨_, rfl, ?_⟩; have a1 := zA (Kd.R_lower (Kd.R_newB a7 (g := a5) (o := .cells #[.string a2, .string a3] 31 (0, 0)) (zK a0.out)) (below_size (zW HB.out))); replace a0 := zb a0 hb; replace HB := zh HB hb; (try clear hb a7); obtain ⟨c7, c8, c9⟩ := Kd.R_slice a1.out; subst c9) | ((with_reducible refine zq 31 ?_); refine zg (some 11) Tryd.func31 #[.slice c7 a4.length c8] ?_; (with_reducible refine (spec_FilesOk.calls k _ _ a4 true _ ?s1 ?s2 A4.out).mono ?_); (case s1 => repeat (first | exact (Kd.R_reads' a1.out).2.2 | (with_reducible refine Kd.C_alloc ?_ _) | (with_reducible refine Kd.C_drewN ?_ _) | (with_reducible refine Kd.C_drew ?_))); (case s2 => exact (Kd.R_reads' a1.out).2.1); rintro e e2 ⟨rfl, hb⟩; refine ⟨_, rfl, ?_⟩; replace a1 := zr a1 hb; replace a0 := zb a0 hb; replace HB := zh HB hb; (try clear hb)))
  go_ret2
  exact ⟨_, zE, zR (Kd.R_mono a1.out (fun _ hk => trivial)), zW HB.out⟩
 obtain ⟨a8, b0⟩ : ∃ y_ : List (S31), y_ = (([] : List (S31))) := ⟨_, rfl⟩
 replace H : (if a8.length + l0.length < 4398046511104 then (some ((a8 ++ l0), false)) else (none)) = some (r1, r2) := zY b0 H
 have b9 := zA b0
 clear b0
 replace H := zC0 H
 obtain ⟨c1, H⟩ := H
 have d0 := zA c1
 clear c1
 obtain ⟨d1, b1⟩ : ∃ y_ : List (S31), y_ = (a8 ++ l0) := ⟨_, rfl⟩
 replace H : (some (d1, false)) = some (r1, r2) := zY b1 H
 have d2 := zA b1
 clear b1
 simp only [zU] at H
 obtain ⟨rfl, rfl⟩ := H
 go_enter Tryd.func10, Tryd.ntmps10
 go_wp2_with (first | ((with_reducible refine zd 3 ?_); refine ze 3 31 #[.string a2, .string a3] ?_; intro a5 hg e3 hbox hb; have a0 := zA (hbox); have c4 := zi HB hg; have c5 := zi HB hg; replace HB := zA (below_step (zB) hb); clear hb hbox hg; obtain ⟨e4, e5, e6, e7⟩ := ze2 a0.out) | ((with_reducible refine zq 57 ?_); refine zg (some 9) Tryd.func57 #[.slice A0 l0.length c0, .agg #[.string a2, .string a3]] ?_; (with_reducible refine (spec_l5Put.calls k _ _ l0 a2 a3 a4 _ ?s1 ?s2 A3.out).mono ?_); (case s1 => exact zC (Kd.C_below a9.out HB.out)); (case s2 => exact b6.out); rintro e e8 ⟨c6, rfl, a7, hb⟩; refine ⟨_, rfl, ?_⟩; have a1 := zA (Kd.R_lower (Kd.R_newB a7 (g := a5) (o := .cells #[.string a2, .string a3] 31 (0, 0)) (zK a0.out)) (below_size (zW HB.out))); replace a0 := zb a0 hb; replace HB := zh HB hb; (try clear hb a7); obtain ⟨c2, c3, d3⟩ := Kd.R_slice a1.out; subst d3) | ((with_reducible refine zq 31 ?_); refine zg (some 11) Tryd.func31 #[.slice c2 a4.length c3] ?_; (with_reducible refine (spec_FilesOk.calls k _ _ a4 false _ ?s1 ?s2 A4.out).mono ?_); (case s1 => repeat (first | exact (Kd.R_reads' a1.out).2.2 | (with_reducible refine Kd.C_alloc ?_ _) | (with_reducible refine Kd.C_drewN ?_ _) | (with_reducible refine Kd.C_drew ?_))); (case s2 => exact (Kd.R_reads' a1.out).2.1); rintro e e9 ⟨rfl, hb⟩; refine ⟨_, rfl, ?_⟩; replace a1 := zr a1 hb; replace a0 := zb a0 hb; replace HB := zh HB hb; (try clear hb)) | ((with_reducible refine gate_dst (N := 13) rfl ?_); refine Kd.R_lit k31 _ 31 ?hg (N := 13) ?hd (xs := ([] : List (S31))) (inner := []) (ok := fun _ => True) ?hr ?hp (fun _ hk => hk) trivial (Below.refl _ _) (Nat.le_refl _) (by simp) ?_; (case hd => rfl); (case hg => rfl); (case hr => first | (go_simp; done) | (go_simp; rfl)); (case hp => exact (Reps.none _ _)); intro d4 f0 a6 hb hg_ hnew_; clear hg_ hnew_; (first | rw [← b9.out] at a6 | (simp only [Int.reduceToNat] at a6; rw [← b9.out] at a6)); have b2 := zA (Kd.R_lower (Kd.R_newB (Kd.R_new' a6 (Kd.R_lt (zR a1.out))) (g := a5) (o := .cells #[.string a2, .string a3] 31 (0, 0)) (zK a0.out)) (below_size (zW HB.out))); replace a1 := zA (Kd.R_elder' (zR a1.out) (Kd.R_base a6) hb); replace a0 := zb a0 hb; replace HB := zh HB hb; clear hb a6) | ((with_reducible refine gate_builtin (b := .append) (xs := #[.tmp 13, .tmp 14]) rfl ?_); at_builtin; refine Kd.R_append_rows k31 (w0 := w) w.heap.size rfl (.tmp 13) (.tmp 14) 27 31 (.agg #[(.string ⟨#[]⟩), (.string ⟨#[]⟩)]) 32 rfl Tryd.underlying27 info31 rfl (by decide) (by omega) d4 a8 l0 _ _ _ (fun k_ => some k_ ≠ (.slice c2 a4.length c3 : Value).ownBlock ∧ k_ ≠ a5) (fun _ => False) rfl rfl ?aO ?aR (fun _ _ h => h) (fun _ h => h.elim) ?aF ?aB ?aS ?aL ?_; (case aR => repeat (first | exact (Kd.C_below a9.out HB.out) | (with_reducible refine Kd.C_alloc ?_ _) | (with_reducible refine Kd.C_drewN ?_ _) | (with_reducible refine Kd.C_drew ?_))); (case aB => exact (zW HB.out)); (case aF => exact (fun k_ hk => ⟨Kd.fresh' (Kd.R_lt (zR a1.out)) k_ hk, Kd.freshB (zK a0.out) k_ hk⟩)); (case aO => exact (zR (Kd.R_mono b2.out (fun _ hk => ⟨hk.1.2, hk.2⟩)))); (case aS => exact (below_size (zW HB.out))); (case aL => have := d0.out; omega); intro f1 f2 ho hb hg hat; rw [← d2.out] at ho; replace a0 := zA (blk_grown (g := a5) (o := .cells #[.string a2, .string a3] 31 (0, 0)) (zK a0.out) hg (Kd.R_away b2.out (fun _ hk => hk.2))); replace a1 := zA (Kd.R_after (ok := (fun k_ => k_ ≠ a5)) (zR (Kd.R_mono a1.out (fun _ hk => ⟨hk.1.2, hk.2⟩))) hg hat); replace HB := zA (hb); have d5 := zA (ho); clear b2; clear ho hb hg hat))
 go_ret2
 exact ⟨_, zE, zR (Kd.R_mono d5.out (fun _ hk => trivial)), zW HB.out⟩
/-! ### spec_l5Draw: function 71 -/
def spec_l5Draw.l0 : Nat → List (S31) → Int → List Int → Int → Int → Option ((List (S31)) × Int × Int)
 | 0, _, _, _, _, _ => none
 | k + 1, x3, x4, a0, a3, a4 => if x4 > 0 then ((spec_l5Path.f k a0 a3 a4).bind fun a1 => ((spec_l1Str.f k a0 a1.2.1 a1.2.2 (([(⟨#[]⟩ : ByteArray), (⟨#[49]⟩ : ByteArray), (⟨#[104, 101, 108, 108, 111]⟩ : ByteArray), (⟨#[116, 119, 111, 10]⟩ : ByteArray)] : List ByteArray))).bind fun a2 => ((spec_PutFile.f k x3 a1.1 a2.1).bind fun a5 => (spec_l5Draw.l0 k a5.1 (wrap64 (x4 - 1)) a0 a2.2.1 a2.2.2)))) else (some (x3, a3, a4))
def spec_l5Draw.f (k : Nat) (a1 : List Int) (a2 a3 : Int) : Option ((List (S31)) × Int × Int) := (spec_l1Below.f k a1 a2 a3 9).bind fun a0 => (spec_l5Draw.l0 k (([] : List (S31))) a0.1 a1 a0.2.1 a0.2.2)
theorem spec_l5Draw.calls (k g : Nat) (a1 : List Int) (a6 a7 : Int) (r1 : List (S31)) (r2 r3 : Int) (w0 w : World) (hI : IsS113 w0 w g a1 a6 a7) (hB : Below w0.heap.size w0 w) (h : spec_l5Draw.f k a1 a6 a7 = some (r1, r2, r3)) :
  Calls Tryd.prog 71 #[.pointer (some ⟨g, 0, none⟩)] w fun e w' => ∃ c4 : Value, e = .returned (c4) ∧ Kd.R k31 31 w' w.heap.size (fun _ => True) c4 r1 ∧ IsS113 w0 w' g a1 r2 r3 ∧ Below w0.heap.size w0 w' ∧ KeepBut w w' g none := by
 have f0 := Tryd.underlying31
 have a0 := zA hI
 have HK := zA (KeepBut.refl w g none)
 have HL := zA hB.size
 clear hI
 have f1 := zA hB.size
 have HB := zA hB
 clear hB
 unfold spec_l5Draw.f at h
 have H := h
 clear h
 obtain ⟨c5, b5⟩ : ∃ y_ : List (S31), y_ = (([] : List (S31))) := ⟨_, rfl⟩
 replace H : ((spec_l1Below.f k a1 a6 a7 9).bind fun b6 => (spec_l5Draw.l0 k c5 b6.1 a1 b6.2.1 b6.2.2)) = some (r1, r2, r3) := zY b5 H
 have c7 := zA b5
 clear b5
 replace H := Option.bind_eq_some_iff.mp H
 obtain ⟨⟨c8, c9, d0⟩, d1, H⟩ := H
 try dsimp only at H
 have A2 := zA d1
 clear d1
 have H' := zA H
 clear H
 go_enter Tryd.func71, Tryd.ntmps71
 go_wp2_with (first | ((with_reducible refine gate_dst (N := 5) rfl ?_); refine Kd.R_lit k31 _ 31 ?hg (N := 5) ?hd (xs := ([] : List (S31))) (inner := []) (ok := fun _ => True) ?hr ?hp (fun _ hk => hk) trivial (Below.refl _ _) (Nat.le_refl _) (by simp) ?_; (case hd => rfl); (case hg => rfl); (case hr => first | (go_simp; done) | (go_simp; rfl)); (case hp => exact (Reps.none _ _)); intro f2 w3 a8 hb hg_ hnew_; clear hg_ hnew_; (first | rw [← c7.out] at a8 | (simp only [Int.reduceToNat] at a8; rw [← c7.out] at a8)); have b7 := zA (Kd.R_lower a8 (keep_size (w := w) (g := g) (row := none) (zQ HK.out))); replace HK := zA (KeepBut.trans (zQ HK.out) (KeepBut.of_below hb g none) (.inl rfl)); replace HB := zA (below_step (zX HB.out (IsS113.ge a0.out)) hb); replace a0 := zA (IsS113.below (by repeat (first | (with_reducible first | exact a0.out | apply IsS113.alloc | apply IsS113.drewN | apply IsS113.drew | apply IsS113.set_1 | apply IsS113.set_2) | exact a0.out)) hb); clear hb a8) | ((with_reducible refine zq 104 ?_); refine zg (some 7) Tryd.func104 #[.pointer (some ⟨g, 0, none⟩), .int .i64 9] ?_; (with_reducible refine (spec_l1Below.calls k g a1 a6 a7 9 c8 c9 d0 w0 _ ?s1 ?s2 A2.out).mono ?_); (case s1 => repeat (first | (with_reducible first | exact a0.out | apply IsS113.alloc | apply IsS113.drewN | apply IsS113.drew | apply IsS113.set_1 | apply IsS113.set_2) | exact a0.out)); (case s2 => repeat (first | (with_reducible first | exact HB.out | apply below_alloc | apply pw_below_drewN | apply below_drew1 | refine below_set ?_ (IsS113.ge a0.out)) | exact HB.out)); rintro e w5 ⟨rfl, hi, hb, hk⟩; refine ⟨_, rfl, ?_⟩; replace b7 := zA (Kd.R_mono (Kd.R_keep (IsS113.apart (show IsS113 w0 _ g a1 a6 a7 from by repeat (first | (with_reducible first | exact a0.out | apply IsS113.alloc | apply IsS113.drewN | apply IsS113.drew | apply IsS113.set_1 | apply IsS113.set_2) | exact a0.out)) (zR b7.out) (by decide)) hk (fun _ h => h.2)) (fun _ h => h.1)); replace HK := zA (KeepBut.trans (zQ HK.out) hk (.inl rfl)); replace HB := zA (hb); replace a0 := zA (hi); (try clear hb hk hi)))
 go_loopg [3, 4] k (fun kq v3 v4 w' => ∃ (a5 : List (S31)) (a4 : Int) (a9 : Int) (b0 : Int), v4 = .int .i64 a4 ∧ Aside0 (spec_l5Draw.l0 kq a5 a4 a1 a9 b0 = some (r1, r2, r3)) ∧ Aside0 (kq ≤ k) ∧ Aside0 (Kd.R k31 31 w' w.heap.size (fun _ => True) v3 a5) ∧ Aside0 (IsS113 w0 w' g a1 a9 b0) ∧ Aside0 (KeepBut w w' g none) ∧ Aside0 (Below w0.heap.size w0 w'))
 case atStart => exact ⟨(c5), (c8), (c9), (d0), zS, H', ⟨Nat.le_refl _⟩, ⟨zR b7.out⟩, ⟨by repeat (first | (with_reducible first | exact a0.out | apply IsS113.alloc | apply IsS113.drewN | apply IsS113.drew | apply IsS113.set_1 | apply IsS113.set_2) | exact a0.out)⟩, ⟨zQ HK.out⟩, ⟨zX HB.out (IsS113.ge a0.out)⟩⟩
 case round =>
  clear H'
  try clear c1
  try clear p2
  obtain ⟨a5, a4, a9, b0, rfl, HA, d2, a2, a0, HK, HB⟩ := hrel
  cases gk with
  | zero => exact absurd HA.out (by simp [spec_l5Draw.l0])
  | succ k1 =>
   have H := HA.out; clear HA; simp only [spec_l5Draw.l0] at H; replace H := zI1 H
   rcases H with ⟨c6, H⟩ | ⟨c6, H⟩
   ·have e0 : decide (0 < a4) = true := decide_eq_true c6; clear c6; replace H := Option.bind_eq_some_iff.mp H; obtain ⟨⟨b4, b1, b2⟩, d3, H⟩ := H
    try dsimp only at H
    have A7 := zA d3; clear d3; obtain ⟨b8, b9⟩ : ∃ y_ : List ByteArray, y_ = (([(⟨#[]⟩ : ByteArray), (⟨#[49]⟩ : ByteArray), (⟨#[104, 101, 108, 108, 111]⟩ : ByteArray), (⟨#[116, 119, 111, 10]⟩ : ByteArray)] : List ByteArray)) := ⟨_, rfl⟩; replace H : ((spec_l1Str.f k1 a1 b1 b2 b8).bind fun c0 => ((spec_PutFile.f k1 a5 b4 c0.1).bind fun e1 => (spec_l5Draw.l0 k1 e1.1 (wrap64 (a4 - 1)) a1 c0.2.1 c0.2.2))) = some (r1, r2, r3) := zY b9 H; have d4 := zA b9; clear b9; replace H := Option.bind_eq_some_iff.mp H; obtain ⟨⟨c2, d5, d6⟩, d7, H⟩ := H
    try dsimp only at H
    have A8 := zA d7; clear d7; replace H := Option.bind_eq_some_iff.mp H; obtain ⟨⟨d8, e2⟩, d9, H⟩ := H
    try dsimp only at H
    have A9 := zA d9; clear d9; have H' := zA H; clear H
    go_wp2_with (first | ((with_reducible refine zq 66 ?_); refine zg (some 15) Tryd.func66 #[.pointer (some ⟨g, 0, none⟩)] ?_; (with_reducible refine (spec_l5Path.calls k1 g a1 a9 b0 b4 b1 b2 w0 _ ?s1 ?s2 A7.out).mono ?_); (case s1 => repeat (first | (with_reducible first | exact a0.out | apply IsS113.alloc | apply IsS113.drewN | apply IsS113.drew | apply IsS113.set_1 | apply IsS113.set_2) | exact a0.out)); (case s2 => repeat (first | (with_reducible first | exact HB.out | apply below_alloc | apply pw_below_drewN | apply below_drew1 | refine below_set ?_ (IsS113.ge a0.out)) | exact HB.out)); rintro e f3 ⟨rfl, hi, hb, hk⟩; refine ⟨_, rfl, ?_⟩; replace a2 := zA (Kd.R_mono (Kd.R_keep (IsS113.apart (show IsS113 w0 _ g a1 a9 b0 from by repeat (first | (with_reducible first | exact a0.out | apply IsS113.alloc | apply IsS113.drewN | apply IsS113.drew | apply IsS113.set_1 | apply IsS113.set_2) | exact a0.out)) (zR a2.out) (by decide)) hk (fun _ h => h.2)) (fun _ h => h.1)); replace HK := zA (KeepBut.trans (zQ HK.out) hk (.inl rfl)); replace HB := zA (hb); replace a0 := zA (hi); (try clear hb hk hi)) | ((with_reducible refine gate_dst (N := 17) rfl ?_); refine Kd.R_lit Kd.string _ 9 ?hg (N := 17) ?hd (xs := ([(⟨#[]⟩ : ByteArray), (⟨#[49]⟩ : ByteArray), (⟨#[104, 101, 108, 108, 111]⟩ : ByteArray), (⟨#[116, 119, 111, 10]⟩ : ByteArray)] : List ByteArray)) (inner := [.string (⟨#[]⟩ : ByteArray), .string (⟨#[49]⟩ : ByteArray), .string (⟨#[104, 101, 108, 108, 111]⟩ : ByteArray), .string (⟨#[116, 119, 111, 10]⟩ : ByteArray)]) (ok := fun _ => True) ?hr ?hp (fun _ hk => hk) trivial (Below.refl _ _) (Nat.le_refl _) (by simp) ?_; (case hd => rfl); (case hg => rfl); (case hr => first | (go_simp; done) | (go_simp; rfl)); (case hp => exact (Reps.one (show Kd.M Kd.string _ _ _ (⟨#[]⟩ : ByteArray) [.string (⟨#[]⟩ : ByteArray)] from rfl) (Reps.one (show Kd.M Kd.string _ _ _ (⟨#[49]⟩ : ByteArray) [.string (⟨#[49]⟩ : ByteArray)] from rfl) (Reps.one (show Kd.M Kd.string _ _ _ (⟨#[104, 101, 108, 108, 111]⟩ : ByteArray) [.string (⟨#[104, 101, 108, 108, 111]⟩ : ByteArray)] from rfl) (Reps.one (show Kd.M Kd.string _ _ _ (⟨#[116, 119, 111, 10]⟩ : ByteArray) [.string (⟨#[116, 119, 111, 10]⟩ : ByteArray)] from rfl) (Reps.none _ _)))))); intro f4 f5 b3 hb hg_ hnew_; clear hg_ hnew_; (first | rw [← d4.out] at b3 | (simp only [Int.reduceToNat] at b3; rw [← d4.out] at b3)); replace a2 := zr a2 hb; have a3 := zA (Kd.R_lower b3 (keep_size (w := w) (g := g) (row := none) (zQ HK.out))); replace HK := zA (KeepBut.trans (zQ HK.out) (KeepBut.of_below hb g none) (.inl rfl)); replace HB := zA (below_step (zX HB.out (IsS113.ge a0.out)) hb); replace a0 := zA (IsS113.below (by repeat (first | (with_reducible first | exact a0.out | apply IsS113.alloc | apply IsS113.drewN | apply IsS113.drew | apply IsS113.set_1 | apply IsS113.set_2) | exact a0.out)) hb); clear hb b3; obtain ⟨e3, e4, e5⟩ := Kd.R_slice a3.out; subst e5) | ((with_reducible refine zq 65 ?_); refine zg (some 18) Tryd.func65 #[.pointer (some ⟨g, 0, none⟩), .slice e3 b8.length e4] ?_; (with_reducible refine (spec_l1Str.calls k1 g a1 b1 b2 _ _ b8 c2 d5 d6 w0 _ ?s1 ?s2 ?s3 ?s4 ?s5 A8.out).mono ?_); (case s1 => repeat (first | (with_reducible first | exact a0.out | apply IsS113.alloc | apply IsS113.drewN | apply IsS113.drew | apply IsS113.set_1 | apply IsS113.set_2) | exact a0.out)); (case s2 => repeat (first | (with_reducible first | exact HB.out | apply below_alloc | apply pw_below_drewN | apply below_drew1 | refine below_set ?_ (IsS113.ge a0.out)) | exact HB.out)); (case s3 => repeat (first | exact (Kd.R_reads' a3.out).2.2 | (with_reducible refine Kd.C_alloc ?_ _) | (with_reducible refine Kd.C_drewN ?_ _) | (with_reducible refine Kd.C_drew ?_))); (case s4 => exact (Kd.R_reads' a3.out).2.1); (case s5 => exact far_slice (IsS113.own_ne a0.out a3.out (by decide))); rintro e f6 ⟨rfl, hi, hb, hk⟩; refine ⟨_, rfl, ?_⟩; replace a2 := zA (Kd.R_mono (Kd.R_keep (IsS113.apart (show IsS113 w0 _ g a1 b1 b2 from by repeat (first | (with_reducible first | exact a0.out | apply IsS113.alloc | apply IsS113.drewN | apply IsS113.drew | apply IsS113.set_1 | apply IsS113.set_2) | exact a0.out)) (zR a2.out) (by decide)) hk (fun _ h => h.2)) (fun _ h => h.1)); replace a3 := zA (Kd.R_mono (Kd.R_keep (IsS113.apart (show IsS113 w0 _ g a1 b1 b2 from by repeat (first | (with_reducible first | exact a0.out | apply IsS113.alloc | apply IsS113.drewN | apply IsS113.drew | apply IsS113.set_1 | apply IsS113.set_2) | exact a0.out)) (zR a3.out) (by decide)) hk (fun _ h => h.2)) (fun _ h => h.1)); replace HK := zA (KeepBut.trans (zQ HK.out) hk (.inl rfl)); replace HB := zA (hb); replace a0 := zA (hi); (try clear hb hk hi); obtain ⟨e6, e7, e8⟩ := Kd.R_slice a2.out; subst e8) | ((with_reducible refine zq 10 ?_); refine zg (some 20) Tryd.func10 #[.slice e6 a5.length e7, .agg #[.string b4, .string c2]] ?_; (with_reducible refine (spec_PutFile.calls k1 _ _ a5 b4 c2 d8 e2 _ ?s1 ?s2 A9.out).mono ?_); (case s1 => repeat (first | exact (Kd.R_reads' a2.out).2.2 | (with_reducible refine Kd.C_alloc ?_ _) | (with_reducible refine Kd.C_drewN ?_ _) | (with_reducible refine Kd.C_drew ?_))); (case s2 => exact (Kd.R_reads' a2.out).2.1); rintro e f7 ⟨f8, rfl, c3, hb⟩; refine ⟨_, rfl, ?_⟩; replace a3 := zr a3 hb; have e9 := zA (Kd.R_lower (Kd.R_new' c3 (Kd.R_lt (zR a2.out))) (keep_size (w := w) (g := g) (row := none) (zQ HK.out))); replace a2 := zA (Kd.R_elder' (zR a2.out) (Kd.R_base c3) hb); replace HK := zA (KeepBut.trans (zQ HK.out) (KeepBut.of_below hb g none) (.inl rfl)); replace HB := zA (below_step (zX HB.out (IsS113.ge a0.out)) hb); replace a0 := zA (IsS113.below (by repeat (first | (with_reducible first | exact a0.out | apply IsS113.alloc | apply IsS113.drewN | apply IsS113.drew | apply IsS113.set_1 | apply IsS113.set_2) | exact a0.out)) hb); (try clear hb c3)))
    go_roundg k1
    case measure => have := d2.out; omega
    case rel => exact ⟨(d8), (wrap64 (a4 - 1)), (d5), (d6), zS, H', ⟨by have := d2.out; omega⟩, ⟨zR (Kd.R_mono e9.out (fun _ hk => trivial))⟩, ⟨by repeat (first | (with_reducible first | exact a0.out | apply IsS113.alloc | apply IsS113.drewN | apply IsS113.drew | apply IsS113.set_1 | apply IsS113.set_2) | exact a0.out)⟩, ⟨zQ HK.out⟩, ⟨zX HB.out (IsS113.ge a0.out)⟩⟩
   have e0 : decide (0 < a4) = false := decide_eq_false c6; clear c6; simp only [zU] at H; obtain ⟨rfl, rfl, rfl⟩ := H
   go_wp2
   go_ret
   exact ⟨_, zE, zR a2.out, by repeat (first | (with_reducible first | exact a0.out | apply IsS113.alloc | apply IsS113.drewN | apply IsS113.drew | apply IsS113.set_1 | apply IsS113.set_2) | exact a0.out), zX HB.out (IsS113.ge a0.out), zQ HK.out⟩
/-! ### spec_l5Any: function 67 -/
def spec_l5Any.l0 : Nat → List (S31) → Int → List Int → Int → Int → Option ((List (S31)) × Int × Int)
 | 0, _, _, _, _, _ => none
 | k + 1, x3, x4, a3, a0, a1 => if x4 < 25 then ((spec_NumText.f k (wrap64 (10 + x4))).bind fun a2 => (if 1 + a2.size ≤ 9223372036854775807 then (if x3.length < 4398046511104 then (spec_l5Any.l0 k (x3 ++ [(⟨(⟨#[122]⟩ : ByteArray) ++ a2, (⟨#[]⟩ : ByteArray)⟩ : S31)]) (wrap64 (x4 + 1)) a3 a0 a1) else (none)) else (none))) else (some (x3, a0, a1))
def spec_l5Any.f (k : Nat) (a2 : List Int) (a5 a6 : Int) : Option ((List (S31)) × Int × Int) := (spec_l5Draw.f k a2 a5 a6).bind fun a1 => ((spec_l1Below.f k a2 a1.2.1 a1.2.2 8).bind fun a0 => (if a0.1 = 0 then ((spec_l1Str.f k a2 a0.2.1 a0.2.2 (([(⟨#[]⟩ : ByteArray), (⟨#[97]⟩ : ByteArray), (⟨#[122, 47]⟩ : ByteArray), (⟨#[122, 47, 46, 47, 97]⟩ : ByteArray), (⟨#[65]⟩ : ByteArray), (⟨#[49, 47, 50, 47, 51, 47, 52, 47, 53]⟩ : ByteArray), (⟨#[122, 47, 116, 104, 105, 114, 116, 101, 101, 110, 45, 98, 121, 116, 101]⟩ : ByteArray), (⟨#[122, 122]⟩ : ByteArray)] : List ByteArray))).bind fun a4 => (if a1.1.length < 4398046511104 then (some ((a1.1 ++ [(⟨a4.1, (⟨#[]⟩ : ByteArray)⟩ : S31)]), a4.2.1, a4.2.2)) else (none))) else (if a0.1 = 1 then ((spec_l1Below.f k a2 a0.2.1 a0.2.2 2).bind fun a3 => (if 0 ≤ (wrap64 (60 + a3.1)) then (if (wrap64 (60 + a3.1) : Int).toNat ≤ 281474976710656 then (if a1.1.length < 4398046511104 then (some ((a1.1 ++ [(⟨(⟨#[122, 122]⟩ : ByteArray), strOfNums (List.replicate (wrap64 (60 + a3.1) : Int).toNat 0)⟩ : S31)]), a3.2.1, a3.2.2)) else (none)) else (none)) else (none))) else (if a0.1 = 2 then (spec_l5Any.l0 k a1.1 0 a2 a0.2.1 a0.2.2) else (some (a1.1, a0.2.1, a0.2.2))))))
theorem spec_l5Any.calls (k g : Nat) (a2 : List Int) (d4 d5 : Int) (r1 : List (S31)) (r2 r3 : Int) (w0 w : World) (hI : IsS113 w0 w g a2 d4 d5) (hB : Below w0.heap.size w0 w) (h : spec_l5Any.f k a2 d4 d5 = some (r1, r2, r3)) :
  Calls Tryd.prog 67 #[.pointer (some ⟨g, 0, none⟩)] w fun e w' => ∃ e9 : Value, e = .returned (e9) ∧ Kd.R k31 31 w' w.heap.size (fun _ => True) e9 r1 ∧ IsS113 w0 w' g a2 r2 r3 ∧ Below w0.heap.size w0 w' ∧ KeepBut w w' g none := by
 have i7 := Tryd.underlying31
 have a0 := zA hI
 have HK := zA (KeepBut.refl w g none)
 have HL := zA hB.size
 clear hI
 have i8 := zA hB.size
 have HB := zA hB
 clear hB
 unfold spec_l5Any.f at h
 have H := h
 clear h
 replace H := Option.bind_eq_some_iff.mp H
 obtain ⟨⟨a3, d6, d7⟩, f0, H⟩ := H
 try dsimp only at H
 have A2 := zA f0
 clear f0
 replace H := Option.bind_eq_some_iff.mp H
 obtain ⟨⟨g9, a4, a5⟩, f1, H⟩ := H
 try dsimp only at H
 have A3 := zA f1
 clear f1
 go_enter Tryd.func67, Tryd.ntmps67
 go_upto_if 9 with (first | ((with_reducible refine zq 71 ?_); refine zg (some 6) Tryd.func71 #[.pointer (some ⟨g, 0, none⟩)] ?_; (with_reducible refine (spec_l5Draw.calls k g a2 d4 d5 a3 d6 d7 w0 _ ?s1 ?s2 A2.out).mono ?_); (case s1 => repeat (first | (with_reducible first | exact a0.out | apply IsS113.alloc | apply IsS113.drewN | apply IsS113.drew | apply IsS113.set_1 | apply IsS113.set_2) | exact a0.out)); (case s2 => repeat (first | (with_reducible first | exact HB.out | apply below_alloc | apply pw_below_drewN | apply below_drew1 | refine below_set ?_ (IsS113.ge a0.out)) | exact HB.out)); rintro e w7 ⟨f2, rfl, f3, hi, hb, hk⟩; refine ⟨_, rfl, ?_⟩; have a1 := zA (Kd.R_lower f3 (keep_size (w := w) (g := g) (row := none) (zQ HK.out))); replace HK := zA (KeepBut.trans (zQ HK.out) hk (.inl rfl)); replace HB := zA (hb); replace a0 := zA (hi); (try clear hb hk hi f3)) | ((with_reducible refine zq 104 ?_); refine zg (some 8) Tryd.func104 #[.pointer (some ⟨g, 0, none⟩), .int .i64 8] ?_; (with_reducible refine (spec_l1Below.calls k g a2 d6 d7 8 g9 a4 a5 w0 _ ?s1 ?s2 A3.out).mono ?_); (case s1 => repeat (first | (with_reducible first | exact a0.out | apply IsS113.alloc | apply IsS113.drewN | apply IsS113.drew | apply IsS113.set_1 | apply IsS113.set_2) | exact a0.out)); (case s2 => repeat (first | (with_reducible first | exact HB.out | apply below_alloc | apply pw_below_drewN | apply below_drew1 | refine below_set ?_ (IsS113.ge a0.out)) | exact HB.out)); rintro e w8 ⟨rfl, hi, hb, hk⟩; refine ⟨_, rfl, ?_⟩; replace a1 := zA (Kd.R_mono (Kd.R_keep (IsS113.apart (show IsS113 w0 _ g a2 d6 d7 from by repeat (first | (with_reducible first | exact a0.out | apply IsS113.alloc | apply IsS113.drewN | apply IsS113.drew | apply IsS113.set_1 | apply IsS113.set_2) | exact a0.out)) (zR a1.out) (by decide)) hk (fun _ h => h.2)) (fun _ h => h.1)); replace HK := zA (KeepBut.trans (zQ HK.out) hk (.inl rfl)); replace HB := zA (hb); replace a0 := zA (hi); (try clear hb hk hi)))
 (try simp only [Act.put, zT])
 replace H := zI1 H
 rcases H with ⟨c4, H⟩ | ⟨c4, H⟩
 ·have b3 := beq_iff_eq.mpr c4; have b4 := bne_eq_false_iff_eq.mpr c4; clear c4; obtain ⟨d8, d9⟩ : ∃ y_ : List ByteArray, y_ = (([(⟨#[]⟩ : ByteArray), (⟨#[97]⟩ : ByteArray), (⟨#[122, 47]⟩ : ByteArray), (⟨#[122, 47, 46, 47, 97]⟩ : ByteArray), (⟨#[65]⟩ : ByteArray), (⟨#[49, 47, 50, 47, 51, 47, 52, 47, 53]⟩ : ByteArray), (⟨#[122, 47, 116, 104, 105, 114, 116, 101, 101, 110, 45, 98, 121, 116, 101]⟩ : ByteArray), (⟨#[122, 122]⟩ : ByteArray)] : List ByteArray)) := ⟨_, rfl⟩; replace H : ((spec_l1Str.f k a2 a4 a5 d8).bind fun e0 => (if a3.length < 4398046511104 then (some ((a3 ++ [(⟨e0.1, (⟨#[]⟩ : ByteArray)⟩ : S31)]), e0.2.1, e0.2.2)) else (none))) = some (r1, r2, r3) := zY d9 H; have f4 := zA d9; clear d9; replace H := Option.bind_eq_some_iff.mp H; obtain ⟨⟨b6, f5, f6⟩, f7, H⟩ := H
  try dsimp only at H
  have A5 := zA f7; clear f7; replace H := zC0 H; obtain ⟨c6, H⟩ := H; have h0 := zA c6; clear c6; obtain ⟨h1, e1⟩ : ∃ y_ : List (S31), y_ = (a3 ++ [(⟨b6, (⟨#[]⟩ : ByteArray)⟩ : S31)]) := ⟨_, rfl⟩; replace H : (some (h1, f5, f6)) = some (r1, r2, r3) := zY e1 H; have h2 := zA e1; clear e1; simp only [zU] at H; obtain ⟨rfl, rfl, rfl⟩ := H
  (try simp only [b3, b4])
  go_wp2_with (first | ((with_reducible refine gate_dst (N := 13) rfl ?_); refine Kd.R_lit Kd.string _ 9 ?hg (N := 13) ?hd (xs := ([(⟨#[]⟩ : ByteArray), (⟨#[97]⟩ : ByteArray), (⟨#[122, 47]⟩ : ByteArray), (⟨#[122, 47, 46, 47, 97]⟩ : ByteArray), (⟨#[65]⟩ : ByteArray), (⟨#[49, 47, 50, 47, 51, 47, 52, 47, 53]⟩ : ByteArray), (⟨#[122, 47, 116, 104, 105, 114, 116, 101, 101, 110, 45, 98, 121, 116, 101]⟩ : ByteArray), (⟨#[122, 122]⟩ : ByteArray)] : List ByteArray)) (inner := [.string (⟨#[]⟩ : ByteArray), .string (⟨#[97]⟩ : ByteArray), .string (⟨#[122, 47]⟩ : ByteArray), .string (⟨#[122, 47, 46, 47, 97]⟩ : ByteArray), .string (⟨#[65]⟩ : ByteArray), .string (⟨#[49, 47, 50, 47, 51, 47, 52, 47, 53]⟩ : ByteArray), .string (⟨#[122, 47, 116, 104, 105, 114, 116, 101, 101, 110, 45, 98, 121, 116, 101]⟩ : ByteArray), .string (⟨#[122, 122]⟩ : ByteArray)]) (ok := fun _ => True) ?hr ?hp (fun _ hk => hk) trivial (Below.refl _ _) (Nat.le_refl _) (by simp) ?_; (case hd => rfl); (case hg => rfl); (case hr => first | (go_simp; done) | (go_simp; rfl)); (case hp => exact (Reps.one (show Kd.M Kd.string _ _ _ (⟨#[]⟩ : ByteArray) [.string (⟨#[]⟩ : ByteArray)] from rfl) (Reps.one (show Kd.M Kd.string _ _ _ (⟨#[97]⟩ : ByteArray) [.string (⟨#[97]⟩ : ByteArray)] from rfl) (Reps.one (show Kd.M Kd.string _ _ _ (⟨#[122, 47]⟩ : ByteArray) [.string (⟨#[122, 47]⟩ : ByteArray)] from rfl) (Reps.one (show Kd.M Kd.string _ _ _ (⟨#[122, 47, 46, 47, 97]⟩ : ByteArray) [.string (⟨#[122, 47, 46, 47, 97]⟩ : ByteArray)] from rfl) (Reps.one (show Kd.M Kd.string _ _ _ (⟨#[65]⟩ : ByteArray) [.string (⟨#[65]⟩ : ByteArray)] from rfl) (Reps.one (show Kd.M Kd.string _ _ _ (⟨#[49, 47, 50, 47, 51, 47, 52, 47, 53]⟩ : ByteArray) [.string (⟨#[49, 47, 50, 47, 51, 47, 52, 47, 53]⟩ : ByteArray)] from rfl) (Reps.one (show Kd.M Kd.string _ _ _ (⟨#[122, 47, 116, 104, 105, 114, 116, 101, 101, 110, 45, 98, 121, 116, 101]⟩ : ByteArray) [.string (⟨#[122, 47, 116, 104, 105, 114, 116, 101, 101, 110, 45, 98, 121, 116, 101]⟩ : ByteArray)] from rfl) (Reps.one (show Kd.M Kd.string _ _ _ (⟨#[122, 122]⟩ : ByteArray) [.string (⟨#[122, 122]⟩ : ByteArray)] from rfl) (Reps.none _ _)))))))))); intro i9 w9 b7 hb hg_ hnew_; clear hg_ hnew_; (first | rw [← f4.out] at b7 | (simp only [Int.reduceToNat] at b7; rw [← f4.out] at b7)); replace a1 := zr a1 hb; have a6 := zA (Kd.R_lower b7 (keep_size (w := w) (g := g) (row := none) (zQ HK.out))); replace HK := zA (KeepBut.trans (zQ HK.out) (KeepBut.of_below hb g none) (.inl rfl)); replace HB := zA (below_step (zX HB.out (IsS113.ge a0.out)) hb); replace a0 := zA (IsS113.below (by repeat (first | (with_reducible first | exact a0.out | apply IsS113.alloc | apply IsS113.drewN | apply IsS113.drew | apply IsS113.set_1 | apply IsS113.set_2) | exact a0.out)) hb); clear hb b7; obtain ⟨h3, h4, h5⟩ := Kd.R_slice a6.out; subst h5) | ((with_reducible refine zq 65 ?_); refine zg (some 14) Tryd.func65 #[.pointer (some ⟨g, 0, none⟩), .slice h3 d8.length h4] ?_; (with_reducible refine (spec_l1Str.calls k g a2 a4 a5 _ _ d8 b6 f5 f6 w0 _ ?s1 ?s2 ?s3 ?s4 ?s5 A5.out).mono ?_); (case s1 => repeat (first | (with_reducible first | exact a0.out | apply IsS113.alloc | apply IsS113.drewN | apply IsS113.drew | apply IsS113.set_1 | apply IsS113.set_2) | exact a0.out)); (case s2 => repeat (first | (with_reducible first | exact HB.out | apply below_alloc | apply pw_below_drewN | apply below_drew1 | refine below_set ?_ (IsS113.ge a0.out)) | exact HB.out)); (case s3 => repeat (first | exact (Kd.R_reads' a6.out).2.2 | (with_reducible refine Kd.C_alloc ?_ _) | (with_reducible refine Kd.C_drewN ?_ _) | (with_reducible refine Kd.C_drew ?_))); (case s4 => exact (Kd.R_reads' a6.out).2.1); (case s5 => exact far_slice (IsS113.own_ne a0.out a6.out (by decide))); rintro e j0 ⟨rfl, hi, hb, hk⟩; refine ⟨_, rfl, ?_⟩; replace a1 := zA (Kd.R_mono (Kd.R_keep (IsS113.apart (show IsS113 w0 _ g a2 a4 a5 from by repeat (first | (with_reducible first | exact a0.out | apply IsS113.alloc | apply IsS113.drewN | apply IsS113.drew | apply IsS113.set_1 | apply IsS113.set_2) | exact a0.out)) (zR a1.out) (by decide)) hk (fun _ h => h.2)) (fun _ h => h.1)); replace a6 := zA (Kd.R_mono (Kd.R_keep (IsS113.apart (show IsS113 w0 _ g a2 a4 a5 from by repeat (first | (with_reducible first | exact a0.out | apply IsS113.alloc | apply IsS113.drewN | apply IsS113.drew | apply IsS113.set_1 | apply IsS113.set_2) | exact a0.out)) (zR a6.out) (by decide)) hk (fun _ h => h.2)) (fun _ h => h.1)); replace HK := zA (KeepBut.trans (zQ HK.out) hk (.inl rfl)); replace HB := zA (hb); replace a0 := zA (hi); (try clear hb hk hi)) | ((with_reducible refine gate_builtin (b := .append) (xs := #[.tmp 11, .tmp 16]) rfl ?_); at_builtin; refine Kd.R_append k31 w.heap.size rfl (.tmp 11) (.tmp 16) 27 31 (.agg #[(.string ⟨#[]⟩), (.string ⟨#[]⟩)]) 32 rfl Tryd.underlying27 info31 rfl (by decide) (by omega) f2 a3 (⟨b6, (⟨#[]⟩ : ByteArray)⟩ : S31) [.string b6, .string (⟨#[]⟩ : ByteArray)] (fun _ => True) (fun _ => False) rfl rfl ?aP (fun _ hk => hk.elim) ?aF ?aO (Below.refl _ _) ?aS ?aL ?_; (case aP => exact k31_mkM _ _ _ (⟨b6, (⟨#[]⟩ : ByteArray)⟩ : S31)); (case aF => exact (fun _ _ => trivial)); (case aO => exact (zR a1.out)); (case aS => exact (keep_size (w := w) (g := g) (row := none) (zQ HK.out))); (case aL => have := h0.out; omega); intro j1 j2 ho hb hg hat; rw [← h2.out] at ho; replace a6 := zA (Kd.R_over' (zR a6.out) (Kd.R_typed (zR a1.out)) (by decide) hg); replace HB := zA (below_weaken (zX HB.out (IsS113.ge a0.out)) HL.out hb); replace a0 := zA (IsS113.grown (by repeat (first | (with_reducible first | exact a0.out | apply IsS113.alloc | apply IsS113.drewN | apply IsS113.drew | apply IsS113.set_1 | apply IsS113.set_2) | exact a0.out)) hg (IsS113.own_ne a0.out a1.out (by decide))); replace HK := zA (KeepBut.trans (zQ HK.out) (KeepBut.of_grown hg g) (Kd.R_base2 a1.out)); have h6 := zA (ho); clear a1; clear ho hb hg hat))
  go_ret
  exact ⟨_, zE, zR h6.out, by repeat (first | (with_reducible first | exact a0.out | apply IsS113.alloc | apply IsS113.drewN | apply IsS113.drew | apply IsS113.set_1 | apply IsS113.set_2) | exact a0.out), zX HB.out (IsS113.ge a0.out), zQ HK.out⟩
 have b3 := beq_eq_false_iff_ne.mpr c4
 have b4 := bne_iff_ne.mpr c4
 replace H := zI1 H
 rcases H with ⟨a7, H⟩ | ⟨a7, H⟩
 ·have b8 := beq_iff_eq.mpr a7; have b9 := bne_eq_false_iff_eq.mpr a7; clear a7; replace H := Option.bind_eq_some_iff.mp H; obtain ⟨⟨e2, c8, c9⟩, f8, H⟩ := H
  try dsimp only at H
  have f9 := zA f8; clear f8; obtain ⟨a8, a9⟩ : ∃ j_ : Int, (wrap64 (60 + e2)) = j_ := ⟨_, rfl⟩
  replace H : (if 0 ≤ (a8) then (if (a8 : Int).toNat ≤ 281474976710656 then (if a3.length < 4398046511104 then (some ((a3 ++ [(⟨(⟨#[122, 122]⟩ : ByteArray), strOfNums (List.replicate (a8 : Int).toNat 0)⟩ : S31)]), c8, c9)) else (none)) else (none)) else (none)) = some (r1, r2, r3) := by first | (rw [a9] at H; exact H) | (simp only [a9] at H ⊢; exact H)
  (try rw [a9] at A2)
  (try rw [a9] at A3)
  (try rw [a9] at f9)
  have hji16w : (IntKind.i64.wrap (60 + e2)) = a8 := (i64_w _).trans a9; replace H := zC0 H; obtain ⟨d0, H⟩ := H; have g0 := eq_true d0; have g1 := decide_eq_true d0; clear d0; replace H := zC0 H; obtain ⟨d1, H⟩ := H; have g2 := eq_true d1; have g3 := decide_eq_true d1; clear d1; obtain ⟨c0, e3⟩ : ∃ y_ : List Int, y_ = (List.replicate (a8 : Int).toNat 0) := ⟨_, rfl⟩; replace H : (if a3.length < 4398046511104 then (some ((a3 ++ [(⟨(⟨#[122, 122]⟩ : ByteArray), strOfNums c0⟩ : S31)]), c8, c9)) else (none)) = some (r1, r2, r3) := zY e3 H; have g4 := zA e3; clear e3; replace H := zC0 H; obtain ⟨e4, H⟩ := H; have h7 := zA e4; clear e4; obtain ⟨h8, e5⟩ : ∃ y_ : List (S31), y_ = (a3 ++ [(⟨(⟨#[122, 122]⟩ : ByteArray), strOfNums c0⟩ : S31)]) := ⟨_, rfl⟩; replace H : (some (h8, c8, c9)) = some (r1, r2, r3) := zY e5 H; have h9 := zA e5; clear e5; simp only [zU] at H; obtain ⟨rfl, rfl, rfl⟩ := H
  (try simp only [b3, b4, b8, b9, g0, g1, g2, g3])
  go_wp2_with (first | ((with_reducible refine zq 104 ?_); refine zg (some 22) Tryd.func104 #[.pointer (some ⟨g, 0, none⟩), .int .i64 2] ?_; (with_reducible refine (spec_l1Below.calls k g a2 a4 a5 2 e2 c8 c9 w0 _ ?s1 ?s2 f9.out).mono ?_); (case s1 => repeat (first | (with_reducible first | exact a0.out | apply IsS113.alloc | apply IsS113.drewN | apply IsS113.drew | apply IsS113.set_1 | apply IsS113.set_2) | exact a0.out)); (case s2 => repeat (first | (with_reducible first | exact HB.out | apply below_alloc | apply pw_below_drewN | apply below_drew1 | refine below_set ?_ (IsS113.ge a0.out)) | exact HB.out)); rintro e j3 ⟨rfl, hi, hb, hk⟩; refine ⟨_, rfl, ?_⟩; replace a1 := zA (Kd.R_mono (Kd.R_keep (IsS113.apart (show IsS113 w0 _ g a2 a4 a5 from by repeat (first | (with_reducible first | exact a0.out | apply IsS113.alloc | apply IsS113.drewN | apply IsS113.drew | apply IsS113.set_1 | apply IsS113.set_2) | exact a0.out)) (zR a1.out) (by decide)) hk (fun _ h => h.2)) (fun _ h => h.1)); replace HK := zA (KeepBut.trans (zQ HK.out) hk (.inl rfl)); replace HB := zA (hb); replace a0 := zA (hi); (try clear hb hk hi)) | ((with_reducible refine gate_dst (N := 24) rfl ?_); refine Kd.R_make (Kd.int .u8) _ 5 rfl (N := 24) rfl 36 _ _ rfl a8 rfl rfl Tryd.underlying36 (.int .u8 0) 1 info5 rfl (by decide) (by omega) 0 (ok := fun _ => True) (okp := fun _ => True) rfl (fun _ hk => hk) trivial (zD) (Nat.le_trans (Nat.mul_le_mul_right _ (zD : a8.toNat ≤ 281474976710656)) (by omega)) (Below.refl _ _) (Nat.le_refl _) ?_; intro j4 j5 c3 hb hg_ hnew_; clear hg_ hnew_; (first | rw [← g4.out] at c3 | (simp only [Int.reduceToNat] at c3; rw [← g4.out] at c3)); replace a1 := zr a1 hb; have e6 := zA (Kd.R_lower c3 (keep_size (w := w) (g := g) (row := none) (zQ HK.out))); replace HK := zA (KeepBut.trans (zQ HK.out) (KeepBut.of_below hb g none) (.inl rfl)); replace HB := zA (below_step (zX HB.out (IsS113.ge a0.out)) hb); replace a0 := zA (IsS113.below (by repeat (first | (with_reducible first | exact a0.out | apply IsS113.alloc | apply IsS113.drewN | apply IsS113.drew | apply IsS113.set_1 | apply IsS113.set_2) | exact a0.out)) hb); clear hb c3; have i0 := own_string (P := Tryd.prog) Tryd.underlying36 Tryd.underlying5 Tryd.underlying9 (Kd.own_of_R e6.out)) | ((with_reducible refine gate_builtin (b := .append) (xs := #[.tmp 20, .tmp 27]) rfl ?_); at_builtin; refine Kd.R_append k31 w.heap.size rfl (.tmp 20) (.tmp 27) 27 31 (.agg #[(.string ⟨#[]⟩), (.string ⟨#[]⟩)]) 32 rfl Tryd.underlying27 info31 rfl (by decide) (by omega) f2 a3 (⟨(⟨#[122, 122]⟩ : ByteArray), strOfNums c0⟩ : S31) [.string (⟨#[122, 122]⟩ : ByteArray), .string (strOfNums c0)] (fun _ => True) (fun _ => False) rfl rfl ?aP (fun _ hk => hk.elim) ?aF ?aO (Below.refl _ _) ?aS ?aL ?_; (case aP => exact k31_mkM _ _ _ (⟨(⟨#[122, 122]⟩ : ByteArray), strOfNums c0⟩ : S31)); (case aF => exact (fun _ _ => trivial)); (case aO => exact (zR a1.out)); (case aS => exact (keep_size (w := w) (g := g) (row := none) (zQ HK.out))); (case aL => have := h7.out; omega); intro j6 j7 ho hb hg hat; rw [← h9.out] at ho; replace e6 := zA (Kd.R_over' (zR e6.out) (Kd.R_typed (zR a1.out)) (by decide) hg); replace HB := zA (below_weaken (zX HB.out (IsS113.ge a0.out)) HL.out hb); replace a0 := zA (IsS113.grown (by repeat (first | (with_reducible first | exact a0.out | apply IsS113.alloc | apply IsS113.drewN | apply IsS113.drew | apply IsS113.set_1 | apply IsS113.set_2) | exact a0.out)) hg (IsS113.own_ne a0.out a1.out (by decide))); replace HK := zA (KeepBut.trans (zQ HK.out) (KeepBut.of_grown hg g) (Kd.R_base2 a1.out)); have i1 := zA (ho); clear a1; clear ho hb hg hat))
  go_ret
  exact ⟨_, by first | rfl | (simp [errW_none, errW_some] <;> rfl) | (simp only [← a9]; first | rfl | (simp [errW_none, errW_some] <;> rfl)) | (simp [*, errW_none, errW_some] <;> rfl), zR i1.out, by repeat (first | (with_reducible first | exact a0.out | apply IsS113.alloc | apply IsS113.drewN | apply IsS113.drew | apply IsS113.set_1 | apply IsS113.set_2) | exact a0.out), zX HB.out (IsS113.ge a0.out), zQ HK.out⟩
 have b8 := beq_eq_false_iff_ne.mpr a7
 have b9 := bne_iff_ne.mpr a7
 replace H := zI1 H
 rcases H with ⟨b0, H⟩ | ⟨b0, H⟩
 ·have d2 := beq_iff_eq.mpr b0; have d3 := bne_eq_false_iff_eq.mpr b0; clear b0; have H' := zA H; clear H
  (try simp only [b3, b4, b8, b9, d2, d3])
  go_wp2
  go_loopg [3, 4] k (fun kq v3 v4 w' => ∃ (c5 : List (S31)) (b1 : Int), v4 = .int .i64 b1 ∧ Aside0 (spec_l5Any.l0 kq c5 b1 a2 a4 a5 = some (r1, r2, r3)) ∧ Aside0 (kq ≤ k) ∧ Aside0 (Kd.R k31 31 w' w.heap.size (fun _ => True) v3 c5) ∧ Aside0 (IsS113 w0 w' g a2 a4 a5) ∧ Aside0 (KeepBut w w' g none) ∧ Aside0 (Below w0.heap.size w0 w'))
  case atStart => exact ⟨(a3), (0), zS, H', ⟨Nat.le_refl _⟩, ⟨zR a1.out⟩, ⟨by repeat (first | (with_reducible first | exact a0.out | apply IsS113.alloc | apply IsS113.drewN | apply IsS113.drew | apply IsS113.set_1 | apply IsS113.set_2) | exact a0.out)⟩, ⟨zQ HK.out⟩, ⟨zX HB.out (IsS113.ge a0.out)⟩⟩
  case round =>
   clear H'
   try clear c1
   try clear c2
   try clear p2
   try clear hcv2
   try clear c4
   try clear b3
   try clear b4
   try clear c6
   try clear p6
   try clear c7
   try clear c10
   try clear a7
   try clear b8
   try clear b9
   try clear d0
   try clear g0
   try clear g1
   try clear d1
   try clear g2
   try clear g3
   try clear e4
   try clear i0
   try clear b0
   try clear d2
   try clear d3
   obtain ⟨c5, b1, rfl, HA, g5, b2, a0, HK, HB⟩ := hrel
   cases gk with
   | zero => exact absurd HA.out (by simp [spec_l5Any.l0])
   | succ k1 =>
    have H := HA.out; clear HA; simp only [spec_l5Any.l0] at H; replace H := zI0 H
    rcases H with ⟨i2, H⟩ | ⟨i2, H⟩
    ·replace H := Option.bind_eq_some_iff.mp H; obtain ⟨b5, g6, H⟩ := H
     try dsimp only at H
     have i3 := zA g6; clear g6; replace H := zC0 H; obtain ⟨e7, H⟩ := H; have j8 := eq_true e7; have j9 := decide_eq_true e7
     try have k0 : (9223372036854775807 < 1 + b5.size) = False := eq_false (Nat.not_lt.2 e7)
     replace H := zC0 H; obtain ⟨g7, H⟩ := H; have i4 := zA g7; clear g7; obtain ⟨g8, e8⟩ : ∃ y_ : List (S31), y_ = (c5 ++ [(⟨(⟨#[122]⟩ : ByteArray) ++ b5, (⟨#[]⟩ : ByteArray)⟩ : S31)]) := ⟨_, rfl⟩; replace H : (spec_l5Any.l0 k1 g8 (wrap64 (b1 + 1)) a2 a4 a5) = some (r1, r2, r3) := zY e8 H; have i5 := zA e8; clear e8; have H' := zA H; clear H
     go_wp2_with (first | ((with_reducible refine zq 51 ?_); refine zg (some 38) Tryd.func51 #[.int .i64 (wrap64 (10 + b1))] ?_; (with_reducible refine (spec_NumText.calls k1 (wrap64 (10 + b1)) b5 _ i3.out).mono ?_); rintro e k2 ⟨rfl, hb⟩; refine ⟨_, rfl, ?_⟩; replace b2 := zr b2 hb; replace HK := zA (KeepBut.trans (zQ HK.out) (KeepBut.of_below hb g none) (.inl rfl)); replace HB := zA (below_step (zX HB.out (IsS113.ge a0.out)) hb); replace a0 := zA (IsS113.below (by repeat (first | (with_reducible first | exact a0.out | apply IsS113.alloc | apply IsS113.drewN | apply IsS113.drew | apply IsS113.set_1 | apply IsS113.set_2) | exact a0.out)) hb); (try clear hb)) | ((with_reducible refine gate_builtin (b := .append) (xs := #[.tmp 35, .tmp 41]) rfl ?_); at_builtin; refine Kd.R_append k31 w.heap.size rfl (.tmp 35) (.tmp 41) 27 31 (.agg #[(.string ⟨#[]⟩), (.string ⟨#[]⟩)]) 32 rfl Tryd.underlying27 info31 rfl (by decide) (by omega) u3 c5 (⟨(⟨#[122]⟩ : ByteArray) ++ b5, (⟨#[]⟩ : ByteArray)⟩ : S31) [.string ((⟨#[122]⟩ : ByteArray) ++ b5), .string (⟨#[]⟩ : ByteArray)] (fun _ => True) (fun _ => False) rfl rfl ?aP (fun _ hk => hk.elim) ?aF ?aO (Below.refl _ _) ?aS ?aL ?_; (case aP => exact k31_mkM _ _ _ (⟨(⟨#[122]⟩ : ByteArray) ++ b5, (⟨#[]⟩ : ByteArray)⟩ : S31)); (case aF => exact (fun _ _ => trivial)); (case aO => exact (zR b2.out)); (case aS => exact (keep_size (w := w) (g := g) (row := none) (zQ HK.out))); (case aL => have := i4.out; omega); intro k3 k4 ho hb hg hat; rw [← i5.out] at ho; replace HB := zA (below_weaken (zX HB.out (IsS113.ge a0.out)) HL.out hb); replace a0 := zA (IsS113.grown (by repeat (first | (with_reducible first | exact a0.out | apply IsS113.alloc | apply IsS113.drewN | apply IsS113.drew | apply IsS113.set_1 | apply IsS113.set_2) | exact a0.out)) hg (IsS113.own_ne a0.out b2.out (by decide))); replace HK := zA (KeepBut.trans (zQ HK.out) (KeepBut.of_grown hg g) (Kd.R_base2 b2.out)); have i6 := zA (ho); clear b2; clear ho hb hg hat))
     go_roundg k1
     case measure => have := g5.out; omega
     case rel => exact ⟨(g8), (wrap64 (b1 + 1)), zS, H', ⟨by have := g5.out; omega⟩, ⟨zR i6.out⟩, ⟨by repeat (first | (with_reducible first | exact a0.out | apply IsS113.alloc | apply IsS113.drewN | apply IsS113.drew | apply IsS113.set_1 | apply IsS113.set_2) | exact a0.out)⟩, ⟨zQ HK.out⟩, ⟨zX HB.out (IsS113.ge a0.out)⟩⟩
    simp only [zU] at H; obtain ⟨rfl, rfl, rfl⟩ := H
    go_wp2
    go_ret
    exact ⟨_, zE, zR b2.out, by repeat (first | (with_reducible first | exact a0.out | apply IsS113.alloc | apply IsS113.drewN | apply IsS113.drew | apply IsS113.set_1 | apply IsS113.set_2) | exact a0.out), zX HB.out (IsS113.ge a0.out), zQ HK.out⟩
 have d2 := beq_eq_false_iff_ne.mpr b0
 have d3 := bne_iff_ne.mpr b0
 simp only [zU] at H
 obtain ⟨rfl, rfl, rfl⟩ := H
 (try simp only [b3, b4, b8, b9, d2, d3])
 go_wp2
 go_ret
 exact ⟨_, zE, zR a1.out, by repeat (first | (with_reducible first | exact a0.out | apply IsS113.alloc | apply IsS113.drewN | apply IsS113.drew | apply IsS113.set_1 | apply IsS113.set_2) | exact a0.out), zX HB.out (IsS113.ge a0.out), zQ HK.out⟩
/-! ### spec_DrawFilesOk: function 19 -/
def spec_DrawFilesOk.f (k : Nat) (l0 : List Int) : Option ((List (S31))) := (spec_l1New.f k l0).bind fun a0 => ((spec_l5Any.f k a0.1 a0.2.1 a0.2.2).bind fun a1 => (some a1.1))
theorem spec_DrawFilesOk.calls (k : Nat) (A0 : Option Addr) (c0 : Nat) (l0 : List Int) (r : List (S31)) (w : World) (a1 : Kd.C (Kd.int .u8) w A0 l0.length l0) (a2 : l0.length ≤ c0) (h : spec_DrawFilesOk.f k l0 = some r) :
  Calls Tryd.prog 19 #[.slice A0 l0.length c0] w fun e w' => ∃ a3 : Value, e = .returned (a3) ∧ Kd.R k31 31 w' w.heap.size (fun _ => True) a3 r ∧ Below w.heap.size w w' := by
 have b1 := zA a1
 have b2 := zA a2
 clear a1 a2
 have HB := zA (Below.refl w.heap.size w)
 unfold spec_DrawFilesOk.f at h
 have H := h
 clear h
 replace H := Option.bind_eq_some_iff.mp H
 obtain ⟨⟨a4, a5, a6⟩, a7, H⟩ := H
 try dsimp only at H
 have A2 := zA a7
 clear a7
 replace H := Option.bind_eq_some_iff.mp H
 obtain ⟨⟨b3, b4, b5⟩, a8, H⟩ := H
 try dsimp only at H
 have A3 := zA a8
 clear a8
 obtain rfl := zm H
 go_enter Tryd.func19, Tryd.ntmps19
 go_wp2_with (first | ((with_reducible refine zq 64 ?_); refine zg (some 5) Tryd.func64 #[.slice A0 l0.length c0] ?_; (with_reducible refine (spec_l1New.calls k _ _ l0 a4 a5 a6 w _ ?s1 ?s2 ?s3 A2.out).mono ?_); (case s1 => repeat (first | (with_reducible first | exact HB.out | apply below_alloc | apply pw_below_drewN | apply below_drew1) | exact HB.out)); (case s2 => exact b1.out); (case s3 => exact b2.out); rintro e w4 ⟨a9, rfl, hi, hb, b6⟩; refine ⟨_, rfl, ?_⟩; replace HB := zA (hb); have a0 := zA (hi); (try clear hb b6 hi)) | ((with_reducible refine zq 67 ?_); refine zg (some 7) Tryd.func67 #[.pointer (some ⟨a9, 0, none⟩)] ?_; (with_reducible refine (spec_l5Any.calls k a9 a4 a5 a6 b3 b4 b5 w _ ?s1 ?s2 A3.out).mono ?_); (case s1 => repeat (first | (with_reducible first | exact a0.out | apply IsS113.alloc | apply IsS113.drewN | apply IsS113.drew | apply IsS113.set_1 | apply IsS113.set_2) | exact a0.out)); (case s2 => repeat (first | (with_reducible first | exact HB.out | apply below_alloc | apply pw_below_drewN | apply below_drew1 | refine below_set ?_ (IsS113.ge a0.out)) | exact HB.out)); rintro e w5 ⟨b8, rfl, b0, hi, hb, hk⟩; refine ⟨_, rfl, ?_⟩; have b7 := zA (Kd.R_lower b0 (below_size (zX HB.out (IsS113.ge a0.out)))); replace HB := zA (hb); replace a0 := zA (hi); (try clear hb hk hi b0)))
 go_ret
 exact ⟨_, zE, zR b7.out, zX HB.out (IsS113.ge a0.out)⟩
/-! ### spec_DrawGetFile: function 20 -/
def spec_DrawGetFile.f (k : Nat) (l0 : List Int) : Option ((List (S31)) × ByteArray) := (spec_l1New.f k l0).bind fun a0 => ((spec_l5Any.f k a0.1 a0.2.1 a0.2.2).bind fun a1 => ((spec_l5Path.f k a0.1 a1.2.1 a1.2.2).bind fun a2 => (some (a1.1, a2.1))))
theorem spec_DrawGetFile.calls (k : Nat) (A0 : Option Addr) (c0 : Nat) (l0 : List Int) (r1 : List (S31)) (r2 : ByteArray) (w : World) (a6 : Kd.C (Kd.int .u8) w A0 l0.length l0) (a7 : l0.length ≤ c0) (h : spec_DrawGetFile.f k l0 = some (r1, r2)) :
  Calls Tryd.prog 20 #[.slice A0 l0.length c0] w fun e w' => ∃ a8 : Value, e = .returned (.tuple #[a8, .string r2]) ∧ Kd.R k31 31 w' w.heap.size (fun _ => True) a8 r1 ∧ Below w.heap.size w w' := by
 have b5 := zA a6
 have b6 := zA a7
 clear a6 a7
 have HB := zA (Below.refl w.heap.size w)
 unfold spec_DrawGetFile.f at h
 have H := h
 clear h
 replace H := Option.bind_eq_some_iff.mp H
 obtain ⟨⟨a2, a9, b0⟩, b1, H⟩ := H
 try dsimp only at H
 have A2 := zA b1
 clear b1
 replace H := Option.bind_eq_some_iff.mp H
 obtain ⟨⟨b7, a3, a4⟩, b2, H⟩ := H
 try dsimp only at H
 have A3 := zA b2
 clear b2
 replace H := Option.bind_eq_some_iff.mp H
 obtain ⟨⟨b8, b9, c1⟩, b3, H⟩ := H
 try dsimp only at H
 have A4 := zA b3
 clear b3
 simp only [zU] at H
 obtain ⟨rfl, rfl⟩ := H
 go_enter Tryd.func20, Tryd.ntmps20
 go_wp2_with (first | ((with_reducible refine zq 64 ?_); refine zg (some 6) Tryd.func64 #[.slice A0 l0.length c0] ?_; (with_reducible refine (spec_l1New.calls k _ _ l0 a2 a9 b0 w _ ?s1 ?s2 ?s3 A2.out).mono ?_); (case s1 => repeat (first | (with_reducible first | exact HB.out | apply below_alloc | apply pw_below_drewN | apply below_drew1) | exact HB.out)); (case s2 => exact b5.out); (case s3 => exact b6.out); rintro e w5 ⟨a1, rfl, hi, hb, c2⟩; refine ⟨_, rfl, ?_⟩; replace HB := zA (hb); have a0 := zA (hi); (try clear hb c2 hi)) | ((with_reducible refine zq 67 ?_); refine zg (some 8) Tryd.func67 #[.pointer (some ⟨a1, 0, none⟩)] ?_; (with_reducible refine (spec_l5Any.calls k a1 a2 a9 b0 b7 a3 a4 w _ ?s1 ?s2 A3.out).mono ?_); (case s1 => repeat (first | (with_reducible first | exact a0.out | apply IsS113.alloc | apply IsS113.drewN | apply IsS113.drew | apply IsS113.set_1 | apply IsS113.set_2) | exact a0.out)); (case s2 => repeat (first | (with_reducible first | exact HB.out | apply below_alloc | apply pw_below_drewN | apply below_drew1 | refine below_set ?_ (IsS113.ge a0.out)) | exact HB.out)); rintro e w6 ⟨c3, rfl, b4, hi, hb, hk⟩; refine ⟨_, rfl, ?_⟩; have a5 := zA (Kd.R_lower b4 (below_size (zX HB.out (IsS113.ge a0.out)))); replace HB := zA (hb); replace a0 := zA (hi); (try clear hb hk hi b4)) | ((with_reducible refine zq 66 ?_); refine zg (some 10) Tryd.func66 #[.pointer (some ⟨a1, 0, none⟩)] ?_; (with_reducible refine (spec_l5Path.calls k a1 a2 a3 a4 b8 b9 c1 w _ ?s1 ?s2 A4.out).mono ?_); (case s1 => repeat (first | (with_reducible first | exact a0.out | apply IsS113.alloc | apply IsS113.drewN | apply IsS113.drew | apply IsS113.set_1 | apply IsS113.set_2) | exact a0.out)); (case s2 => repeat (first | (with_reducible first | exact HB.out | apply below_alloc | apply pw_below_drewN | apply below_drew1 | refine below_set ?_ (IsS113.ge a0.out)) | exact HB.out)); rintro e w7 ⟨rfl, hi, hb, hk⟩; refine ⟨_, rfl, ?_⟩; replace a5 := zA (Kd.R_mono (Kd.R_keep (IsS113.apart (show IsS113 w _ a1 a2 a3 a4 from by repeat (first | (with_reducible first | exact a0.out | apply IsS113.alloc | apply IsS113.drewN | apply IsS113.drew | apply IsS113.set_1 | apply IsS113.set_2) | exact a0.out)) (zR a5.out) (by decide)) hk (fun _ h => h.2)) (fun _ h => h.1)); replace HB := zA (hb); replace a0 := zA (hi); (try clear hb hk hi)))
 go_ret2
 exact ⟨_, zE, zR a5.out, zX HB.out (IsS113.ge a0.out)⟩
-- NOT PRINTED: function 101 (impl_File_101)
/-! ### impl_fileAt: function 68 -/
theorem impl_fileAt_pred (gb : Nat) (path a0 a1 : ByteArray) (w : World) (hp : w.cell? ⟨gb, 0, none⟩ = some (.string path)) :
  Calls Tryd.prog 105 #[.agg #[.string a0, .string a1], .pointer (some ⟨gb, 0, none⟩)] w fun e w' => e = .returned (.bool (a0.toList == path.toList)) ∧ Below w.heap.size w w' := by
 have hlt : gb < w.heap.size := World.block_lt_of_cell? w _ hp
 have hne : gb ≠ w.heap.size := by omega
 go_enter Tryd.func105, Tryd.ntmps105
 go_wp2
 go_ret
 exact ⟨rfl, below_alloc (Below.refl _ _) _⟩
/-- The first place from i on at which a test holds; -1 without one. -/
def impl_fileAt_idx (p : S31 → Bool) (l : List S31) (i : Nat) : Int := match (l.drop i).findIdx? p with | some j => ((i + j : Nat) : Int) | none => -1
theorem impl_fileAt_idx_hit (p : S31 → Bool) (l : List S31) (i : Nat) (h : i < l.length) (hp : p l[i] = true) : impl_fileAt_idx p l i = (i : Int) := by
 unfold impl_fileAt_idx
 rw [List.drop_eq_getElem_cons h, List.findIdx?_cons, hp]
 simp
theorem impl_fileAt_idx_step (p : S31 → Bool) (l : List S31) (i : Nat) (h : i < l.length) (hp : p l[i] = false) : impl_fileAt_idx p l i = impl_fileAt_idx p l (i + 1) := by
 unfold impl_fileAt_idx
 rw [List.drop_eq_getElem_cons h, List.findIdx?_cons, hp]
 cases (l.drop (i + 1)).findIdx? p with
 | none => simp
 | some j => simp; omega
theorem impl_fileAt_idx_end (p : S31 → Bool) (l : List S31) (i : Nat) (h : l.length ≤ i) : impl_fileAt_idx p l i = -1 := by
 unfold impl_fileAt_idx
 rw [List.drop_eq_nil_of_le h]
 rfl
set_option maxHeartbeats 2000000 in
set_option maxRecDepth 100000 in
theorem impl_fileAt_index (p : S31 → Bool) (gb : Nat) (A0 : Option Addr) (c0 : Nat) (l0 : List S31) (w0 w : World) (hB : Below w0.heap.size w0 w) (a0 : Kd.C k31 w0 A0 l0.length l0) (a4 : l0.length ≤ c0)
  (hp : ∀ (W : World) (x : S31) (cs : List Value), Below w.heap.size w W → k31.K W x cs → Calls Tryd.prog 105 #[.agg cs.toArray, .pointer (some ⟨gb, 0, none⟩)] W fun e w' => e = .returned (.bool (p x)) ∧ Below w.heap.size w w') :
  Calls Tryd.prog 101 #[.slice A0 l0.length c0, .func (.func 105) #[] #[.pointer (some ⟨gb, 0, none⟩)]] w fun e w' => e = .returned (.int .i64 (impl_fileAt_idx p l0 0)) ∧ Below w.heap.size w w' := by
 have hmax : l0.length ≤ 9223372036854775807 := a0.2.1
 have a5 := zA a0
 have HP := zA hp
 have HB := zA hB
 clear a0 a4 hp hB
 go_enter Tryd.func101, Tryd.ntmps101
 go_wp2
 go_loopg [5, 8] l0.length (fun gg _ s8 wr => ∃ kk : Nat, kk ≤ l0.length ∧ l0.length - kk ≤ gg ∧ s8 = .int .i64 kk ∧ Aside0 (Below w.heap.size w wr) ∧ Aside0 (impl_fileAt_idx p l0 kk = impl_fileAt_idx p l0 0))
 case atStart => exact ⟨0, Nat.zero_le _, by omega, rfl, ⟨Below.refl _ w⟩, ⟨rfl⟩⟩
 case round =>
  obtain ⟨kk, hkk, hg, rfl, BW, A⟩ := hrel
  by_cases hlt : kk < l0.length
  ·have hltz : (kk : Int) < (l0.length : Int) := by omega
   have h0z : (0 : Int) ≤ (kk : Int) := by omega
   have a3 : Below w0.heap.size w0 wr := below_then HB.out HB.out.size BW.out; obtain ⟨ad, e', a1, a2⟩ := at_T31 a5.out (kk : Int) h0z hltz
   cases e'
   rw [Int.toNat_natCast] at a1; replace a1 := pw_cell_below a3 a1; rw [Int.toNat_natCast] at a2; replace a2 := pw_cell_below a3 a2; have hK := k31_mk wr (rd_T31 l0 (kk : Int)); have hcall := HP.out wr (rd_T31 l0 (kk : Int)) _ BW.out hK; clear hK
   have hget : l0[kk] = rd_T31 l0 (kk : Int) := by
    unfold rd_T31; rw [List.getD_eq_getElem?_getD, Int.toNat_natCast, List.getElem?_eq_getElem hlt]
    rfl
   cases hq : p (rd_T31 l0 (kk : Int)) with
   | true =>
    rw [hq] at hcall; have hi := impl_fileAt_idx_hit p l0 kk hlt (by rw [hget]; exact hq); rw [A.out] at hi; have HI := zA hi; have HC := zA hcall; clear hi hq hget hcall
    go_wp2_with (go_at_call 105; refine HC.out.mono ?_; rintro e w' ⟨rfl, hb'⟩)
    go_ret
    exact ⟨by first | rfl | (rw [HI.out]; rfl), hb'⟩
   | false =>
    rw [hq] at hcall; have hi := impl_fileAt_idx_step p l0 kk hlt (by rw [hget]; exact hq); rw [A.out] at hi; have HI := zA hi.symm; have HC := zA hcall; clear hi hq hget hcall
    go_wp2_with (go_at_call 105; refine HC.out.mono ?_; rintro e w' ⟨rfl, hb'⟩)
    go_roundg (l0.length - (kk + 1))
    case measure => omega
    case rel => exact ⟨kk + 1, by omega, by omega, by go_num, ⟨hb'⟩, HI⟩
  have hltz : ¬ (kk : Int) < (l0.length : Int) := by omega
  have hi := impl_fileAt_idx_end p l0 kk (by omega); rw [A.out] at hi; have HI := zA hi; clear hi
  go_wp2
  go_ret
  exact ⟨by first | rfl | (rw [HI.out]; rfl), BW.out⟩
def impl_fileAt.f (l0 : List (S31)) (a1 : ByteArray) : Option (Int) := some (impl_fileAt_idx (fun x => x.f0.toList == a1.toList) l0 0)
set_option maxHeartbeats 2000000 in
set_option maxRecDepth 100000 in
theorem impl_fileAt.calls (A0 : Option Addr) (c0 : Nat) (l0 : List (S31)) (a1 : ByteArray) (r : Int) (w : World) (a0 : Kd.C k31 w A0 l0.length l0) (a2 : l0.length ≤ c0) (h : impl_fileAt.f l0 a1 = some r) :
  Calls Tryd.prog 68 #[.slice A0 l0.length c0, .string a1] w fun e w' => e = .returned (.int .i64 r) ∧ Below w.heap.size w w' := by
 obtain rfl := Option.some.inj h
 have HB := zA (below_alloc (Below.refl w.heap.size w) (.cells #[.string a1] 9))
 have HC := zA (impl_fileAt_index (fun x => x.f0.toList == a1.toList) w.heap.size A0 c0 l0 w (w.alloc (.cells #[.string a1] 9)) HB.out a0 a2 (fun W x cs hW hK => by
  obtain rfl := k31_open hK
  refine (impl_fileAt_pred w.heap.size a1 x.f0 x.f1 W ?_).mono fun e w' hpost => ⟨hpost.1, below_then hW hW.size hpost.2⟩
  exact pw_cell_below hW (by simp)))
 clear a0 a2 h
 go_enter Tryd.func68, Tryd.ntmps68
 go_wp2_with (go_at_call 101; refine HC.out.mono ?_; rintro e w' ⟨rfl, hb'⟩)
 go_ret
 exact ⟨rfl, below_then HB.out HB.out.size hb'⟩
/-! ### impl_GetFile: function 21 -/
def impl_GetFile.f (l0 : List (S31)) (a1 : ByteArray) : Option (ByteArray × Bool) := (impl_fileAt.f l0 a1).bind fun a0 => (if a0 < 0 then (some ((⟨#[]⟩ : ByteArray), false)) else (if 0 ≤ a0 then (if a0 < (l0.length : Int) then (some ((rd_T31 l0 a0).f1, true)) else (none)) else (none)))
theorem impl_GetFile.calls (A0 : Option Addr) (c0 : Nat) (l0 : List (S31)) (a1 r1 : ByteArray) (r2 : Bool) (w : World) (a5 : Kd.C k31 w A0 l0.length l0) (a6 : l0.length ≤ c0) (h : impl_GetFile.f l0 a1 = some (r1, r2)) :
  Calls Tryd.prog 21 #[.slice A0 l0.length c0, .string a1] w fun e w' => e = .returned (.tuple #[.string r1, .bool r2]) ∧ Below w.heap.size w w' := by
 have a2 := zA a5
 have a7 := zA a6
 clear a5 a6
 have HB := zA (Below.refl w.heap.size w)
 unfold impl_GetFile.f at h
 have H := h
 clear h
 replace H := Option.bind_eq_some_iff.mp H
 obtain ⟨a0, a8, H⟩ := H
 try dsimp only at H
 have A3 := zA a8
 clear a8
 replace H := zI0 H
 rcases H with ⟨b1, H⟩ | ⟨b1, H⟩
 ·simp only [zU] at H; obtain ⟨rfl, rfl⟩ := H
  go_enter Tryd.func21, Tryd.ntmps21
  go_wp2_with (first | ((with_reducible refine zq 68 ?_); refine zg (some 9) Tryd.func68 #[.slice A0 l0.length c0, .string a1] ?_; (with_reducible refine (impl_fileAt.calls _ _ l0 a1 a0 _ ?s1 ?s2 A3.out).mono ?_); (case s1 => repeat (first | exact a2.out | (with_reducible refine Kd.C_alloc ?_ _) | (with_reducible refine Kd.C_drewN ?_ _) | (with_reducible refine Kd.C_drew ?_))); (case s2 => exact a7.out); rintro e w5 ⟨rfl, hb⟩; refine ⟨_, rfl, ?_⟩; replace HB := zA (below_step (zB) hb); (try clear hb)))
  go_ret2
  exact ⟨zE, zB⟩
 replace H := zD0 H
 obtain ⟨b3, H⟩ := H
 replace H := zD0 H
 obtain ⟨b4, H⟩ := H
 simp only [zU] at H
 obtain ⟨rfl, rfl⟩ := H
 go_enter Tryd.func21, Tryd.ntmps21
 go_wp2_with (first | ((with_reducible refine zq 68 ?_); refine zg (some 9) Tryd.func68 #[.slice A0 l0.length c0, .string a1] ?_; (with_reducible refine (impl_fileAt.calls _ _ l0 a1 a0 _ ?s1 ?s2 A3.out).mono ?_); (case s1 => repeat (first | exact a2.out | (with_reducible refine Kd.C_alloc ?_ _) | (with_reducible refine Kd.C_drewN ?_ _) | (with_reducible refine Kd.C_drew ?_))); (case s2 => exact a7.out); rintro e w8 ⟨rfl, hb⟩; refine ⟨_, rfl, ?_⟩; replace HB := zA (below_step (zB) hb); (try clear hb); have a3 : 0 ≤ (a0 : Int) := zD; have a4 : a0 < (l0.length : Int) := zD; obtain ⟨b5, b2, a9, b0⟩ := at_T31 a2.out a0 a3 a4; cases b2; replace a9 := zx HB a9; replace b0 := zx HB b0; replace a3 := eq_true a3; replace a4 := eq_true a4))
 go_ret2
 exact ⟨zE, zB⟩
/-! ### spec_l5At: function 69 -/
def spec_l5At.l0 : Nat → List (S31) → ByteArray → Int → Option (Int)
 | 0, _, _, _ => none
 | k + 1, x0, x1, x5 => if x5 < (x0.length : Int) then (if 0 ≤ x5 then (if ((rd_T31 x0 x5).f0).toList = x1.toList then (some x5) else (spec_l5At.l0 k x0 x1 (wrap64 (x5 + 1)))) else (none)) else (some (-1))
def spec_l5At.f (k : Nat) (l0 : List (S31)) (a1 : ByteArray) : Option (Int) := spec_l5At.l0 k l0 a1 0
theorem spec_l5At.calls (k : Nat) (A0 : Option Addr) (c0 : Nat) (l0 : List (S31)) (a1 : ByteArray) (r : Int) (w : World) (a5 : Kd.C k31 w A0 l0.length l0) (a6 : l0.length ≤ c0) (h : spec_l5At.f k l0 a1 = some r) :
  Calls Tryd.prog 69 #[.slice A0 l0.length c0, .string a1] w fun e w' => e = .returned (.int .i64 r) ∧ Drawn0 w w' := by
 have a7 := zA a5
 have b5 := zA a6
 clear a5 a6
 unfold spec_l5At.f at h
 have H := h
 clear h
 have H' := zA H
 clear H
 go_enter Tryd.func69, Tryd.ntmps69
 go_wp2
 go_loopg [5] k (fun kq v5 w' => ∃ (a0 : Int), v5 = .int .i64 a0 ∧ Aside0 (spec_l5At.l0 kq l0 a1 a0 = some r) ∧ Aside0 (kq ≤ k) ∧ Drawn0 w w')
 case atStart => exact ⟨(0), zS, H', ⟨Nat.le_refl _⟩, by repeat (first | exact Drawn0.refl _ | apply Drawn0.step)⟩
 case round =>
  clear H'
  try clear p2
  obtain ⟨a0, rfl, HA, a8, ⟨m1, rfl⟩⟩ := hrel
  cases gk with
  | zero => exact absurd HA.out (by simp [spec_l5At.l0])
  | succ k1 =>
   have H := HA.out; clear HA; simp only [spec_l5At.l0] at H; replace H := zI0 H
   rcases H with ⟨a9, H⟩ | ⟨a9, H⟩
   ·replace H := zD0 H; obtain ⟨b6, H⟩ := H; replace H := zI1 H
    rcases H with ⟨c5, H⟩ | ⟨c5, H⟩
    ·have b0 := beq_iff_eq.mpr c5; have b1 := bne_eq_false_iff_eq.mpr c5; clear c5; obtain rfl := zm H; have a2 : 0 ≤ (a0 : Int) := zD; have a3 : a0 < (l0.length : Int) := zD; obtain ⟨b2, a4, b3, b4⟩ := at_T31 a7.out a0 a2 a3; cases a4; replace a2 := eq_true a2; replace a3 := eq_true a3
     go_wp2
     go_ret
     exact ⟨by first | rfl | (simp; done) | (simp [*]; done) | (simp; rw [Bool.eq_iff_iff]; simp; done), by repeat (first | exact Drawn0.refl _ | apply Drawn0.step)⟩
    have b0 := beq_eq_false_iff_ne.mpr c5; have b1 := bne_iff_ne.mpr c5; have H' := zA H; clear H; have a2 : 0 ≤ (a0 : Int) := zD; have a3 : a0 < (l0.length : Int) := zD; obtain ⟨b2, a4, b3, b4⟩ := at_T31 a7.out a0 a2 a3; cases a4; replace a2 := eq_true a2; replace a3 := eq_true a3
    go_wp2
    go_roundg k1
    case measure => have := a8.out; omega
    case rel => exact ⟨(wrap64 (a0 + 1)), zS, H', ⟨by have := a8.out; omega⟩, by repeat (first | exact Drawn0.refl _ | apply Drawn0.step)⟩
   obtain rfl := zm H
   go_wp2
   go_ret
   exact ⟨by first | rfl | (simp; done) | (simp [*]; done) | (simp; rw [Bool.eq_iff_iff]; simp; done), by repeat (first | exact Drawn0.refl _ | apply Drawn0.step)⟩
/-! ### spec_GetFile: function 22 -/
def spec_GetFile.f (k : Nat) (l0 : List (S31)) (a1 : ByteArray) : Option (ByteArray × Bool) := (spec_l5At.f k l0 a1).bind fun a0 => (if a0 < 0 then (some ((⟨#[]⟩ : ByteArray), false)) else (if 0 ≤ a0 then (if a0 < (l0.length : Int) then (some ((rd_T31 l0 a0).f1, true)) else (none)) else (none)))
theorem spec_GetFile.calls (k : Nat) (A0 : Option Addr) (c0 : Nat) (l0 : List (S31)) (a1 r1 : ByteArray) (r2 : Bool) (w : World) (a5 : Kd.C k31 w A0 l0.length l0) (a6 : l0.length ≤ c0) (h : spec_GetFile.f k l0 a1 = some (r1, r2)) :
  Calls Tryd.prog 22 #[.slice A0 l0.length c0, .string a1] w fun e w' => e = .returned (.tuple #[.string r1, .bool r2]) ∧ Drawn0 w w' := by
 have a2 := zA a5
 have a7 := zA a6
 clear a5 a6
 unfold spec_GetFile.f at h
 have H := h
 clear h
 replace H := Option.bind_eq_some_iff.mp H
 obtain ⟨a0, a8, H⟩ := H
 try dsimp only at H
 have A3 := zA a8
 clear a8
 replace H := zI0 H
 rcases H with ⟨a9, H⟩ | ⟨a9, H⟩
 ·simp only [zU] at H; obtain ⟨rfl, rfl⟩ := H
  go_enter Tryd.func22, Tryd.ntmps22
  go_wp2_with (first | ((with_reducible refine zq 69 ?_); refine zg (some 9) Tryd.func69 #[.slice A0 l0.length c0, .string a1] ?_; (with_reducible refine (spec_l5At.calls k _ _ l0 a1 a0 _ ?s1 ?s2 A3.out).mono ?_); (case s1 => repeat (first | exact a2.out | (with_reducible refine Kd.C_alloc ?_ _) | (with_reducible refine Kd.C_drewN ?_ _) | (with_reducible refine Kd.C_drew ?_))); (case s2 => exact a7.out); rintro e w' ⟨rfl, ⟨nd, rfl⟩⟩; refine ⟨_, rfl, ?_⟩))
  go_ret2
  exact ⟨by first | rfl | (simp; done) | (simp [*]; done) | (simp; rw [Bool.eq_iff_iff]; simp; done), by repeat (first | exact Drawn0.refl _ | apply Drawn0.step)⟩
 replace H := zD0 H
 obtain ⟨b1, H⟩ := H
 replace H := zD0 H
 obtain ⟨b2, H⟩ := H
 simp only [zU] at H
 obtain ⟨rfl, rfl⟩ := H
 go_enter Tryd.func22, Tryd.ntmps22
 go_wp2_with (first | ((with_reducible refine zq 69 ?_); refine zg (some 9) Tryd.func69 #[.slice A0 l0.length c0, .string a1] ?_; (with_reducible refine (spec_l5At.calls k _ _ l0 a1 a0 _ ?s1 ?s2 A3.out).mono ?_); (case s1 => repeat (first | exact a2.out | (with_reducible refine Kd.C_alloc ?_ _) | (with_reducible refine Kd.C_drewN ?_ _) | (with_reducible refine Kd.C_drew ?_))); (case s2 => exact a7.out); rintro e w' ⟨rfl, ⟨nd, rfl⟩⟩; refine ⟨_, rfl, ?_⟩; have a3 : 0 ≤ (a0 : Int) := zD; have a4 : a0 < (l0.length : Int) := zD; obtain ⟨b3, b0, b4, b5⟩ := at_T31 a2.out a0 a3 a4; cases b0; replace a3 := eq_true a3; replace a4 := eq_true a4))
 go_ret2
 exact ⟨by first | rfl | (simp; done) | (simp [*]; done) | (simp; rw [Bool.eq_iff_iff]; simp; done), by repeat (first | exact Drawn0.refl _ | apply Drawn0.step)⟩
/-! ### spec_DrawDropFile: function 23 -/
def spec_DrawDropFile.f (k : Nat) (l0 : List Int) : Option ((List (S31)) × ByteArray) := (spec_DrawGetFile.f k l0).bind fun a0 => (some (a0.1, a0.2))
theorem spec_DrawDropFile.calls (k : Nat) (A0 : Option Addr) (c0 : Nat) (l0 : List Int) (r1 : List (S31)) (r2 : ByteArray) (w : World) (a0 : Kd.C (Kd.int .u8) w A0 l0.length l0) (a1 : l0.length ≤ c0) (h : spec_DrawDropFile.f k l0 = some (r1, r2)) :
  Calls Tryd.prog 23 #[.slice A0 l0.length c0] w fun e w' => ∃ a2 : Value, e = .returned (.tuple #[a2, .string r2]) ∧ Kd.R k31 31 w' w.heap.size (fun _ => True) a2 r1 ∧ Below w.heap.size w w' := by
 have a5 := zA a0
 have a6 := zA a1
 clear a0 a1
 have HB := zA (Below.refl w.heap.size w)
 unfold spec_DrawDropFile.f at h
 have H := h
 clear h
 replace H := Option.bind_eq_some_iff.mp H
 obtain ⟨⟨a7, a8⟩, a3, H⟩ := H
 try dsimp only at H
 have A2 := zA a3
 clear a3
 simp only [zU] at H
 obtain ⟨rfl, rfl⟩ := H
 go_enter Tryd.func23, Tryd.ntmps23
 go_wp2_with (first | ((with_reducible refine zq 20 ?_); refine zg (some 5) Tryd.func20 #[.slice A0 l0.length c0] ?_; (with_reducible refine (spec_DrawGetFile.calls k _ _ l0 a7 a8 _ ?s1 ?s2 A2.out).mono ?_); (case s1 => repeat (first | exact a5.out | (with_reducible refine Kd.C_alloc ?_ _) | (with_reducible refine Kd.C_drewN ?_ _) | (with_reducible refine Kd.C_drew ?_))); (case s2 => exact a6.out); rintro e w3 ⟨b0, rfl, a4, hb⟩; refine ⟨_, rfl, ?_⟩; have a9 := zA (Kd.R_lower a4 (below_size (zB))); replace HB := zA (below_step (zB) hb); (try clear hb a4)))
 go_ret2
 exact ⟨_, zE, zR a9.out, zB⟩
/-! ### strings_Split: function 73 -/
def strings_Split.f (a0 a1 : ByteArray) : Option (List ByteArray) := if a0.size < 4294967281 ∧ 1 ≤ a1.size then some (Lib.splitB a1 0 (Lib.countB a0 a1) a0) else none
theorem strings_Split.calls (a0 a1 : ByteArray) (r : List ByteArray) (w : World) (hG : GW w) (h : strings_Split.f a0 a1 = some r) :
  Calls Tryd.prog 73 #[.string a0, .string a1] w fun e w' => ∃ a2 : Value, e = .returned (a2) ∧ Kd.R Kd.string 9 w' w.heap.size (fun _ => True) a2 r ∧ Below w.heap.size w w' := by
 unfold strings_Split.f at h
 split at h
 ·rename_i hs
  obtain rfl := Option.some.inj h; obtain ⟨m, hm⟩ := hG.maxLen
  refine (Tryd.strings_Split a0 a1 m w hs.1 hm hs.2).mono ?_
  rintro e w' ⟨rfl, rfl⟩
  have hl := Lib.splitB_all a1 hs.2 0 _ a0 rfl; have hle := Lib.countB_le a1 hs.2 a0.size a0 (Nat.le_refl _)
  exact ⟨_, rfl, Lb.split_R w 9 _ _ hl (by omega), below_alloc (Below.refl _ _) _⟩
 ·cases h
/-! ### impl_inRange: function 78 -/
def impl_inRange.f (a0 a1 a2 : Int) : Option (Bool) := if a0 ≥ a1 then (some (decide (a0 ≤ a2))) else (some false)
theorem impl_inRange.calls (a0 a1 a2 : Int) (r : Bool) (w : World) (h : impl_inRange.f a0 a1 a2 = some r) :
  Calls Tryd.prog 78 #[.int .i64 a0, .int .i64 a1, .int .i64 a2] w fun e w' => e = .returned (.bool r) ∧ Drawn0 w w' := by
 unfold impl_inRange.f at h
 have H := h
 clear h
 replace H := zI1 H
 rcases H with ⟨c4, H⟩ | ⟨c4, H⟩
 ·have a3 : decide (a1 ≤ a0) = true := decide_eq_true c4; clear c4; obtain rfl := zm H
  go_enter Tryd.func78, Tryd.ntmps78
  go_wp2
  go_ret
  exact ⟨by first | rfl | (simp; done) | (simp [*]; done) | (simp; rw [Bool.eq_iff_iff]; simp; done), by repeat (first | exact Drawn0.refl _ | apply Drawn0.step)⟩
 have a3 : decide (a1 ≤ a0) = false := decide_eq_false c4
 clear c4
 obtain rfl := zm H
 go_enter Tryd.func78, Tryd.ntmps78
 go_wp2
 go_ret
 exact ⟨by first | rfl | (simp; done) | (simp [*]; done) | (simp; rw [Bool.eq_iff_iff]; simp; done), by repeat (first | exact Drawn0.refl _ | apply Drawn0.step)⟩
/-! ### impl_isFigure: function 79 -/
def impl_isFigure.f (a0 : Int) : Option (Bool) := if a0 ≥ 48 then (some (decide (a0 ≤ 57))) else (some false)
theorem impl_isFigure.calls (a0 : Int) (r : Bool) (w : World) (h : impl_isFigure.f a0 = some r) :
  Calls Tryd.prog 79 #[.int .u8 a0] w fun e w' => e = .returned (.bool r) ∧ Drawn0 w w' := by
 unfold impl_isFigure.f at h
 have H := h
 clear h
 replace H := zI1 H
 rcases H with ⟨c2, H⟩ | ⟨c2, H⟩
 ·have a1 : decide (48 ≤ a0) = true := decide_eq_true c2; clear c2; obtain rfl := zm H
  go_enter Tryd.func79, Tryd.ntmps79
  go_wp2
  go_ret
  exact ⟨by first | rfl | (simp; done) | (simp [*]; done) | (simp; rw [Bool.eq_iff_iff]; simp; done), by repeat (first | exact Drawn0.refl _ | apply Drawn0.step)⟩
 have a1 : decide (48 ≤ a0) = false := decide_eq_false c2
 clear c2
 obtain rfl := zm H
 go_enter Tryd.func79, Tryd.ntmps79
 go_wp2
 go_ret
 exact ⟨by first | rfl | (simp; done) | (simp [*]; done) | (simp; rw [Bool.eq_iff_iff]; simp; done), by repeat (first | exact Drawn0.refl _ | apply Drawn0.step)⟩
/-! ### impl_isSmall: function 127 -/
def impl_isSmall.f (a0 : Int) : Option (Bool) := if a0 ≥ 97 then (some (decide (a0 ≤ 122))) else (some false)
theorem impl_isSmall.calls (a0 : Int) (r : Bool) (w : World) (h : impl_isSmall.f a0 = some r) :
  Calls Tryd.prog 127 #[.int .u8 a0] w fun e w' => e = .returned (.bool r) ∧ Drawn0 w w' := by
 unfold impl_isSmall.f at h
 have H := h
 clear h
 replace H := zI1 H
 rcases H with ⟨c2, H⟩ | ⟨c2, H⟩
 ·have a1 : decide (97 ≤ a0) = true := decide_eq_true c2; clear c2; obtain rfl := zm H
  go_enter Tryd.func127, Tryd.ntmps127
  go_wp2
  go_ret
  exact ⟨by first | rfl | (simp; done) | (simp [*]; done) | (simp; rw [Bool.eq_iff_iff]; simp; done), by repeat (first | exact Drawn0.refl _ | apply Drawn0.step)⟩
 have a1 : decide (97 ≤ a0) = false := decide_eq_false c2
 clear c2
 obtain rfl := zm H
 go_enter Tryd.func127, Tryd.ntmps127
 go_wp2
 go_ret
 exact ⟨by first | rfl | (simp; done) | (simp [*]; done) | (simp; rw [Bool.eq_iff_iff]; simp; done), by repeat (first | exact Drawn0.refl _ | apply Drawn0.step)⟩
/-! ### impl_isPathByte: function 107 -/
def impl_isPathByte.f (a0 : Int) : Option (Bool) := (impl_isSmall.f a0).bind fun a1 => (if a1 = true then (some true) else ((impl_isFigure.f a0).bind fun a2 => (if a2 = true then (some true) else (if a0 = 46 then (some true) else (if a0 = 45 then (some true) else (some (a0 == 95)))))))
theorem impl_isPathByte.calls (a0 : Int) (r : Bool) (w : World) (h : impl_isPathByte.f a0 = some r) :
  Calls Tryd.prog 107 #[.int .u8 a0] w fun e w' => e = .returned (.bool r) ∧ Drawn0 w w' := by
 unfold impl_isPathByte.f at h
 have H := h
 clear h
 replace H := Option.bind_eq_some_iff.mp H
 obtain ⟨a7, a1, H⟩ := H
 try dsimp only at H
 have A2 := zA a1
 clear a1
 replace H := zB0 H
 rcases H with ⟨rfl, H⟩ | ⟨rfl, H⟩
 ·obtain rfl := zm H
  go_enter Tryd.func107, Tryd.ntmps107
  go_wp2_with (first | ((with_reducible refine zq 127 ?_); refine zg (some 4) Tryd.func127 #[.int .u8 a0] ?_; (with_reducible refine (impl_isSmall.calls a0 true _ A2.out).mono ?_); rintro e w' ⟨rfl, ⟨nd, rfl⟩⟩; refine ⟨_, rfl, ?_⟩))
  go_ret
  exact ⟨by first | rfl | (simp; done) | (simp [*]; done) | (simp; rw [Bool.eq_iff_iff]; simp; done), by repeat (first | exact Drawn0.refl _ | apply Drawn0.step)⟩
 replace H := Option.bind_eq_some_iff.mp H
 obtain ⟨a8, a2, H⟩ := H
 try dsimp only at H
 have A4 := zA a2
 clear a2
 replace H := zB0 H
 rcases H with ⟨rfl, H⟩ | ⟨rfl, H⟩
 ·obtain rfl := zm H
  go_enter Tryd.func107, Tryd.ntmps107
  go_wp2_with (first | ((with_reducible refine zq 127 ?_); refine zg (some 4) Tryd.func127 #[.int .u8 a0] ?_; (with_reducible refine (impl_isSmall.calls a0 false _ A2.out).mono ?_); rintro e w' ⟨rfl, ⟨nd, rfl⟩⟩; refine ⟨_, rfl, ?_⟩) | (go_at_call 79; (with_reducible refine (impl_isFigure.calls a0 true _ A4.out).mono ?_); rintro e w' ⟨rfl, ⟨nd, rfl⟩⟩))
  go_ret
  exact ⟨by first | rfl | (simp; done) | (simp [*]; done) | (simp; rw [Bool.eq_iff_iff]; simp; done), by repeat (first | exact Drawn0.refl _ | apply Drawn0.step)⟩
 replace H := zI1 H
 rcases H with ⟨c6, H⟩ | ⟨c6, H⟩
 ·have a3 := beq_iff_eq.mpr c6; have a4 := bne_eq_false_iff_eq.mpr c6; clear c6; obtain rfl := zm H
  go_enter Tryd.func107, Tryd.ntmps107
  go_wp2_with (first | ((with_reducible refine zq 127 ?_); refine zg (some 4) Tryd.func127 #[.int .u8 a0] ?_; (with_reducible refine (impl_isSmall.calls a0 false _ A2.out).mono ?_); rintro e w' ⟨rfl, ⟨nd, rfl⟩⟩; refine ⟨_, rfl, ?_⟩) | (go_at_call 79; (with_reducible refine (impl_isFigure.calls a0 false _ A4.out).mono ?_); rintro e w' ⟨rfl, ⟨nd, rfl⟩⟩))
  go_ret
  exact ⟨by first | rfl | (simp; done) | (simp [*]; done) | (simp; rw [Bool.eq_iff_iff]; simp; done), by repeat (first | exact Drawn0.refl _ | apply Drawn0.step)⟩
 have a3 := beq_eq_false_iff_ne.mpr c6
 have a4 := bne_iff_ne.mpr c6
 replace H := zI1 H
 rcases H with ⟨c7, H⟩ | ⟨c7, H⟩
 ·have a5 := beq_iff_eq.mpr c7; have a6 := bne_eq_false_iff_eq.mpr c7; clear c7; obtain rfl := zm H
  go_enter Tryd.func107, Tryd.ntmps107
  go_wp2_with (first | ((with_reducible refine zq 127 ?_); refine zg (some 4) Tryd.func127 #[.int .u8 a0] ?_; (with_reducible refine (impl_isSmall.calls a0 false _ A2.out).mono ?_); rintro e w' ⟨rfl, ⟨nd, rfl⟩⟩; refine ⟨_, rfl, ?_⟩) | (go_at_call 79; (with_reducible refine (impl_isFigure.calls a0 false _ A4.out).mono ?_); rintro e w' ⟨rfl, ⟨nd, rfl⟩⟩))
  go_ret
  exact ⟨by first | rfl | (simp; done) | (simp [*]; done) | (simp; rw [Bool.eq_iff_iff]; simp; done), by repeat (first | exact Drawn0.refl _ | apply Drawn0.step)⟩
 have a5 := beq_eq_false_iff_ne.mpr c7
 have a6 := bne_iff_ne.mpr c7
 obtain rfl := zm H
 go_enter Tryd.func107, Tryd.ntmps107
 go_wp2_with (first | ((with_reducible refine zq 127 ?_); refine zg (some 4) Tryd.func127 #[.int .u8 a0] ?_; (with_reducible refine (impl_isSmall.calls a0 false _ A2.out).mono ?_); rintro e w' ⟨rfl, ⟨nd, rfl⟩⟩; refine ⟨_, rfl, ?_⟩) | (go_at_call 79; (with_reducible refine (impl_isFigure.calls a0 false _ A4.out).mono ?_); rintro e w' ⟨rfl, ⟨nd, rfl⟩⟩))
 go_ret
 exact ⟨by first | rfl | (simp; done) | (simp [*]; done) | (simp; rw [Bool.eq_iff_iff]; simp; done), by repeat (first | exact Drawn0.refl _ | apply Drawn0.step)⟩
/-! ### impl_fileNameOk: function 74 -/
def impl_fileNameOk.l0 : Nat → ByteArray → Int → Option (Bool)
 | 0, _, _ => none
 | k + 1, x0, x3 => if x3 < (x0.size : Int) then (if 0 ≤ x3 then ((impl_isPathByte.f (bt x0 x3)).bind fun a0 => (if a0 = true then (impl_fileNameOk.l0 k x0 (wrap64 (x3 + 1))) else (some false))) else (none)) else ((impl_inRange.f (x0.size : Int) 1 12).bind fun a1 => (if a1 = true then (if x0.toList = ([46] : List UInt8) then (some false) else (some (x0.toList != ([46, 46] : List UInt8)))) else (some false)))
def impl_fileNameOk.f (k : Nat) (a0 : ByteArray) : Option (Bool) := impl_fileNameOk.l0 k a0 0
theorem impl_fileNameOk.calls (k : Nat) (a0 : ByteArray) (r : Bool) (w : World) (h : impl_fileNameOk.f k a0 = some r) :
  Calls Tryd.prog 74 #[.string a0] w fun e w' => e = .returned (.bool r) ∧ Drawn0 w w' := by
 unfold impl_fileNameOk.f at h
 have H := h
 clear h
 have H' := zA H
 clear H
 go_enter Tryd.func74, Tryd.ntmps74
 go_wp2
 go_loopg [3] k (fun kq v3 w' => ∃ (a1 : Int), v3 = .int .i64 a1 ∧ Aside0 (impl_fileNameOk.l0 kq a0 a1 = some r) ∧ Aside0 (kq ≤ k) ∧ Drawn0 w w')
 case atStart => exact ⟨(0), zS, H', ⟨Nat.le_refl _⟩, by repeat (first | exact Drawn0.refl _ | apply Drawn0.step)⟩
 case round =>
  clear H'; obtain ⟨a1, rfl, HA, a2, ⟨m1, rfl⟩⟩ := hrel
  cases gk with
  | zero => exact absurd HA.out (by simp [impl_fileNameOk.l0])
  | succ k1 =>
   have H := HA.out; clear HA; simp only [impl_fileNameOk.l0] at H; replace H := zI0 H
   rcases H with ⟨a5, H⟩ | ⟨a5, H⟩
   ·replace H := zD0 H; obtain ⟨a9, H⟩ := H; replace H := Option.bind_eq_some_iff.mp H; obtain ⟨b0, a3, H⟩ := H
    try dsimp only at H
    have A5 := zA a3; clear a3; replace H := zB0 H
    rcases H with ⟨rfl, H⟩ | ⟨rfl, H⟩
    ·have H' := zA H; clear H; have p4 : 0 ≤ (a1 : Int) := zD; have q4 : a1 < (a0.size : Int) := zD; have a6 := bt_at a0 a1; replace p4 := eq_true p4; replace q4 := eq_true q4
     go_wp2_with (first | ((with_reducible refine zq 107 ?_); refine zg (some 13) Tryd.func107 #[.int .u8 (bt a0 a1)] ?_; (with_reducible refine (impl_isPathByte.calls (bt a0 a1) true _ A5.out).mono ?_); rintro e w' ⟨rfl, ⟨nd, rfl⟩⟩; refine ⟨_, rfl, ?_⟩))
     go_roundg k1
     case measure => have := a2.out; omega
     case rel => exact ⟨(wrap64 (a1 + 1)), zS, H', ⟨by have := a2.out; omega⟩, by repeat (first | exact Drawn0.refl _ | apply Drawn0.step)⟩
    obtain rfl := zm H; have p4 : 0 ≤ (a1 : Int) := zD; have q4 : a1 < (a0.size : Int) := zD; have a6 := bt_at a0 a1; replace p4 := eq_true p4; replace q4 := eq_true q4
    go_wp2_with (first | ((with_reducible refine zq 107 ?_); refine zg (some 13) Tryd.func107 #[.int .u8 (bt a0 a1)] ?_; (with_reducible refine (impl_isPathByte.calls (bt a0 a1) false _ A5.out).mono ?_); rintro e w' ⟨rfl, ⟨nd, rfl⟩⟩; refine ⟨_, rfl, ?_⟩))
    go_ret
    exact ⟨by first | rfl | (simp; done) | (simp [*]; done) | (simp; rw [Bool.eq_iff_iff]; simp; done), by repeat (first | exact Drawn0.refl _ | apply Drawn0.step)⟩
   replace H := Option.bind_eq_some_iff.mp H; obtain ⟨b1, a4, H⟩ := H
   try dsimp only at H
   have A7 := zA a4; clear a4; replace H := zB0 H
   rcases H with ⟨rfl, H⟩ | ⟨rfl, H⟩
   ·replace H := zI1 H
    rcases H with ⟨c9, H⟩ | ⟨c9, H⟩
    ·have a7 := beq_iff_eq.mpr c9; have a8 := bne_eq_false_iff_eq.mpr c9; clear c9; obtain rfl := zm H
     go_wp2_with (first | ((with_reducible refine zq 78 ?_); refine zg (some 17) Tryd.func78 #[.int .i64 (a0.size : Int), .int .i64 1, .int .i64 12] ?_; (with_reducible refine (impl_inRange.calls (a0.size : Int) 1 12 true _ A7.out).mono ?_); rintro e w' ⟨rfl, ⟨nd, rfl⟩⟩; refine ⟨_, rfl, ?_⟩))
     go_ret
     exact ⟨by first | rfl | (simp; done) | (simp [*]; done) | (simp; rw [Bool.eq_iff_iff]; simp; done), by repeat (first | exact Drawn0.refl _ | apply Drawn0.step)⟩
    have a7 := beq_eq_false_iff_ne.mpr c9; have a8 := bne_iff_ne.mpr c9; obtain rfl := zm H
    go_wp2_with (first | ((with_reducible refine zq 78 ?_); refine zg (some 17) Tryd.func78 #[.int .i64 (a0.size : Int), .int .i64 1, .int .i64 12] ?_; (with_reducible refine (impl_inRange.calls (a0.size : Int) 1 12 true _ A7.out).mono ?_); rintro e w' ⟨rfl, ⟨nd, rfl⟩⟩; refine ⟨_, rfl, ?_⟩))
    go_ret
    exact ⟨by first | rfl | (simp; done) | (simp [*]; done) | (simp; rw [Bool.eq_iff_iff]; simp; done), by repeat (first | exact Drawn0.refl _ | apply Drawn0.step)⟩
   obtain rfl := zm H
   go_wp2_with (first | ((with_reducible refine zq 78 ?_); refine zg (some 17) Tryd.func78 #[.int .i64 (a0.size : Int), .int .i64 1, .int .i64 12] ?_; (with_reducible refine (impl_inRange.calls (a0.size : Int) 1 12 false _ A7.out).mono ?_); rintro e w' ⟨rfl, ⟨nd, rfl⟩⟩; refine ⟨_, rfl, ?_⟩))
   go_ret
   exact ⟨by first | rfl | (simp; done) | (simp [*]; done) | (simp; rw [Bool.eq_iff_iff]; simp; done), by repeat (first | exact Drawn0.refl _ | apply Drawn0.step)⟩
/-! ### impl_PathOk: function 28 -/
def impl_PathOk.l0 : Nat → List ByteArray → List ByteArray → Int → Int → Option (Bool)
 | 0, _, _, _, _ => none
 | k + 1, x3, x8, x9, a0 => if a0 < x9 then (if 0 ≤ a0 then (if a0 < (x8.length : Int) then ((impl_fileNameOk.f k (rdOf ByteArray.empty x8 a0)).bind fun a1 => (if a1 = true then (impl_PathOk.l0 k x3 x8 x9 (wrap64 (a0 + 1))) else (some false))) else (none)) else (none)) else (some (decide ((x3.length : Int) ≤ 4)))
def impl_PathOk.f (k : Nat) (a0 : ByteArray) : Option (Bool) := (strings_Split.f a0 (⟨#[47]⟩ : ByteArray)).bind fun a1 => (impl_PathOk.l0 k a1 a1 (a1.length : Int) 0)
theorem impl_PathOk.calls (k : Nat) (a0 : ByteArray) (r : Bool) (w : World) (hG : GW w) (h : impl_PathOk.f k a0 = some r) :
  Calls Tryd.prog 28 #[.string a0] w fun e w' => e = .returned (.bool r) ∧ Below w.heap.size w w' := by
 have HG := zA hG
 clear hG
 have HB := zA (Below.refl w.heap.size w)
 unfold impl_PathOk.f at h
 have H := h
 clear h
 replace H := Option.bind_eq_some_iff.mp H
 obtain ⟨a1, a8, H⟩ := H
 try dsimp only at H
 have A2 := zA a8
 clear a8
 have H' := zA H
 clear H
 go_enter Tryd.func28, Tryd.ntmps28
 go_wp2_with (first | ((with_reducible refine zq 73 ?_); refine zg (some 7) Tryd.func73 #[.string a0, .string (⟨#[47]⟩ : ByteArray)] ?_; (with_reducible refine (strings_Split.calls a0 (⟨#[47]⟩ : ByteArray) a1 _ ?s1 A2.out).mono ?_); (case s1 => exact GW.below HG.out (zB)); rintro e w3 ⟨c0, rfl, a9, hb⟩; refine ⟨_, rfl, ?_⟩; have a5 := zA (Kd.R_lower a9 (below_size (zB))); replace HB := zA (below_step (zB) hb); (try clear hb a9); obtain ⟨b0, b1, b4⟩ := Kd.R_slice a5.out; subst b4))
 go_loopg [10] k (fun kq b5 w' => ∃ (a2 : Int), b5 = .int .i64 a2 ∧ Aside0 (impl_PathOk.l0 kq a1 a1 (a1.length : Int) a2 = some r) ∧ Aside0 (kq ≤ k) ∧ Aside0 (Kd.R Kd.string 9 w' w.heap.size (fun _ => True) (.slice b0 a1.length b1) a1) ∧ Aside0 (Kd.R Kd.string 9 w' w.heap.size (fun _ => True) (.slice b0 a1.length b1) a1) ∧ Aside0 (Below w.heap.size w w'))
 case atStart => exact ⟨(0), zS, H', ⟨Nat.le_refl _⟩, ⟨zR a5.out⟩, ⟨zR a5.out⟩, ⟨zB⟩⟩
 case round =>
  clear H'
  try clear c2
  try clear p2
  obtain ⟨a2, rfl, HA, b2, b6, a6, HB⟩ := hrel
  cases gk with
  | zero => exact absurd HA.out (by simp [impl_PathOk.l0])
  | succ k1 =>
   have H := HA.out; clear HA; simp only [impl_PathOk.l0] at H; replace H := zI0 H
   rcases H with ⟨b7, H⟩ | ⟨b7, H⟩
   ·replace H := zD0 H; obtain ⟨c1, H⟩ := H; replace H := zD0 H; obtain ⟨c3, H⟩ := H; replace H := Option.bind_eq_some_iff.mp H; obtain ⟨c4, b3, H⟩ := H
    try dsimp only at H
    have A8 := zA b3; clear b3; replace H := zB0 H
    rcases H with ⟨rfl, H⟩ | ⟨rfl, H⟩
    ·have H' := zA H; clear H; have a3 : 0 ≤ (a2 : Int) := zD; have a4 : a2 < (a1.length : Int) := zD; obtain ⟨b8, a7, b9⟩ := Kd.at_string (Kd.R_reads' a6.out).2.2 a2 a3 a4; cases a7; replace a3 := eq_true a3; replace a4 := eq_true a4
     go_wp2_with (first | ((with_reducible refine zq 74 ?_); refine zg (some 15) Tryd.func74 #[.string (rdOf ByteArray.empty a1 a2)] ?_; (with_reducible refine (impl_fileNameOk.calls k1 (rdOf ByteArray.empty a1 a2) true _ A8.out).mono ?_); rintro e w' ⟨rfl, ⟨nd, rfl⟩⟩; refine ⟨_, rfl, ?_⟩))
     go_roundg k1
     case measure => have := b2.out; omega
     case rel => exact ⟨(wrap64 (a2 + 1)), zS, H', ⟨by have := b2.out; omega⟩, ⟨zR b6.out⟩, ⟨zR a6.out⟩, ⟨zB⟩⟩
    obtain rfl := zm H; have a3 : 0 ≤ (a2 : Int) := zD; have a4 : a2 < (a1.length : Int) := zD; obtain ⟨b8, a7, b9⟩ := Kd.at_string (Kd.R_reads' a6.out).2.2 a2 a3 a4; cases a7; replace a3 := eq_true a3; replace a4 := eq_true a4
    go_wp2_with (first | ((with_reducible refine zq 74 ?_); refine zg (some 15) Tryd.func74 #[.string (rdOf ByteArray.empty a1 a2)] ?_; (with_reducible refine (impl_fileNameOk.calls k1 (rdOf ByteArray.empty a1 a2) false _ A8.out).mono ?_); rintro e w' ⟨rfl, ⟨nd, rfl⟩⟩; refine ⟨_, rfl, ?_⟩))
    go_ret
    exact ⟨zE, zB⟩
   obtain rfl := zm H
   go_wp2
   go_ret
   exact ⟨zE, zB⟩
end Go.Proofs.YtbaeljcnbkeipaaDoor.PGA
