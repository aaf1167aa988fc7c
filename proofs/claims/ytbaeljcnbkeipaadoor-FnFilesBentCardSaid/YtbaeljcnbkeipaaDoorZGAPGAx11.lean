/- The walks of the functions that these laws reach, and what each comes to: printed by this session's program. -/
import Derived.Test.YtbaeljcnbkeipaaDoorZGAPGAx0
import Derived.Test.YtbaeljcnbkeipaaDoorZGAPGAx2
import Derived.Test.YtbaeljcnbkeipaaDoorZGAPGAx5
import Derived.Test.YtbaeljcnbkeipaaDoorZGAPGAx7
import Derived.Test.YtbaeljcnbkeipaaDoorZGAPGAx9
import Derived.Test.YtbaeljcnbkeipaaDoorZGASays
namespace Go.Proofs.YtbaeljcnbkeipaaDoor.PGA
open Go.RowKit YtbaeljcnbkeipaaDoorW.PrintWords YtbaeljcnbkeipaaDoorW.PrintLast YtbaeljcnbkeipaaDoorW.PrintMore
attribute [local go_sem high] Mine.str_gtr Mine.str_leq Mine.str_geq
attribute [local go_sem] max2_int min2_int max_two min_two max_three min_three max_four min_four   -- for this text's walks alone
set_option linter.unusedVariables false
set_option maxHeartbeats 8000000
set_option maxRecDepth 100000
set_option linter.unusedSimpArgs false
/-! ### spec_DiffFiles: function 34 -/
mutual
def spec_DiffFiles.l0 : Nat → List (S31) → List (S31) → List ByteArray → Int → Option (List ByteArray)
 | 0, _, _, _, _ => none
 | k + 1, x0, x1, x5, x6 => if x6 < (x0.length : Int) then (if 0 ≤ x6 then ((spec_GetFile.f k x1 ((rd_T31 x0 x6).f0)).bind fun a0 => (if a0.2 = true then (if a0.1.toList = ((rd_T31 x0 x6).f1).toList then (spec_DiffFiles.l0 k x0 x1 x5 (wrap64 (x6 + 1))) else (if x5.length < 8796093022208 then (spec_DiffFiles.l0 k x0 x1 (x5 ++ [(rd_T31 x0 x6).f0]) (wrap64 (x6 + 1))) else (none))) else (if x5.length < 8796093022208 then (spec_DiffFiles.l0 k x0 x1 (x5 ++ [(rd_T31 x0 x6).f0]) (wrap64 (x6 + 1))) else (none)))) else (none)) else (spec_DiffFiles.l1 k x0 x1 x5 0)
def spec_DiffFiles.l1 : Nat → List (S31) → List (S31) → List ByteArray → Int → Option (List ByteArray)
 | 0, _, _, _, _ => none
 | k + 1, x0, x1, x5, x9 => if x9 < (x1.length : Int) then (if 0 ≤ x9 then ((spec_GetFile.f k x0 ((rd_T31 x1 x9).f0)).bind fun a1 => (if a1.2 = true then (spec_DiffFiles.l1 k x0 x1 x5 (wrap64 (x9 + 1))) else (if x5.length < 8796093022208 then (spec_DiffFiles.l1 k x0 x1 (x5 ++ [(rd_T31 x1 x9).f0]) (wrap64 (x9 + 1))) else (none)))) else (none)) else ((spec_Sorted.f k x5).bind fun a2 => (some a2))
end
def spec_DiffFiles.f (k : Nat) (l0 : List (S31)) (l1 : List (S31)) : Option (List ByteArray) := spec_DiffFiles.l0 k l0 l1 (([] : List ByteArray)) 0
theorem spec_DiffFiles.calls (k : Nat) (A0 : Option Addr) (c0 : Nat) (l0 : List (S31)) (A1 : Option Addr) (c1 : Nat) (l1 : List (S31)) (r : List ByteArray) (w : World) (f5 : Kd.C k31 w A0 l0.length l0) (f6 : l0.length ≤ c0) (f7 : Kd.C k31 w A1 l1.length l1) (f8 : l1.length ≤ c1) (h : spec_DiffFiles.f k l0 l1 = some r) :
  Calls Tryd.prog 34 #[.slice A0 l0.length c0, .slice A1 l1.length c1] w fun e w' => ∃ f9 : Value, e = .returned (f9) ∧ Kd.R Kd.string 9 w' w.heap.size (fun _ => True) f9 r ∧ Below w.heap.size w w' := by
 have a6 := zA f5
 have g0 := zA f6
 clear f5 f6
 have b5 := zA f7
 have d6 := zA f8
 clear f7 f8
 have HB := zA (Below.refl w.heap.size w)
 unfold spec_DiffFiles.f at h
 have H := h
 clear h
 obtain ⟨g1, d7⟩ : ∃ y_ : List ByteArray, y_ = (([] : List ByteArray)) := ⟨_, rfl⟩
 replace H : (spec_DiffFiles.l0 k l0 l1 g1 0) = some r := zY d7 H
 have g2 := zA d7
 clear d7
 have H' := zA H
 clear H
 go_enter Tryd.func34, Tryd.ntmps34
 go_wp2_with (first | ((with_reducible refine gate_dst (N := 12) rfl ?_); refine Kd.R_lit Kd.string _ 9 ?hg (N := 12) ?hd (xs := ([] : List ByteArray)) (inner := []) (ok := fun _ => True) ?hr ?hp (fun _ hk => hk) trivial (Below.refl _ _) (Nat.le_refl _) (by simp) ?_; (case hd => rfl); (case hg => rfl); (case hr => first | (go_simp; done) | (go_simp; rfl)); (case hp => exact (Reps.none _ _)); intro k4 w3 b9 hb hg_ hnew_; clear hg_ hnew_; (first | rw [← g2.out] at b9 | (simp only [Int.reduceToNat] at b9; rw [← g2.out] at b9)); have h8 := zA (Kd.R_lower b9 (below_size (zB))); replace HB := zA (below_step (zB) hb); clear hb b9))
 go_loopg [5, 6] k (fun kq v5 v6 w' => ∃ (a7 : List ByteArray) (a0 : Int), v6 = .int .i64 a0 ∧ Aside0 (spec_DiffFiles.l0 kq l0 l1 a7 a0 = some r) ∧ Aside0 (kq ≤ k) ∧ Aside0 (Kd.R Kd.string 9 w' w.heap.size (fun _ => True) v5 a7) ∧ Aside0 (Below w.heap.size w w'))
 case atStart => exact ⟨(g1), (0), zS, H', ⟨Nat.le_refl _⟩, ⟨zR h8.out⟩, ⟨zB⟩⟩
 case round =>
  clear H'
  try clear c1
  try clear p2
  try clear c3
  obtain ⟨a7, a0, rfl, HA, a5, a2, HB⟩ := hrel
  cases gk with
  | zero => exact absurd HA.out (by simp [spec_DiffFiles.l0])
  | succ k1 =>
   have H := HA.out; clear HA; simp only [spec_DiffFiles.l0] at H; replace H := zI0 H
   rcases H with ⟨g3, H⟩ | ⟨g3, H⟩
   ·replace H := zD0 H; obtain ⟨h9, H⟩ := H; replace H := Option.bind_eq_some_iff.mp H; obtain ⟨⟨d8, k5⟩, g4, H⟩ := H
    try dsimp only at H
    have A7 := zA g4; clear g4; replace H := zB0 H
    rcases H with ⟨rfl, H⟩ | ⟨rfl, H⟩
    ·replace H := zI1 H
     rcases H with ⟨c9, H⟩ | ⟨c9, H⟩
     ·have g5 := beq_iff_eq.mpr c9; have g6 := bne_eq_false_iff_eq.mpr c9; clear c9; have H' := zA H; clear H; have a3 : 0 ≤ (a0 : Int) := zD; have a4 : a0 < (l0.length : Int) := zD; obtain ⟨b6, c4, a8, a9⟩ := at_T31 a6.out a0 a3 a4; cases c4; replace a8 := zx HB a8; replace a9 := zx HB a9; replace a3 := eq_true a3; replace a4 := eq_true a4
      go_wp2_with (first | ((with_reducible refine zq 22 ?_); refine zg (some 26) Tryd.func22 #[.slice A1 l1.length c1, .string ((rd_T31 l0 a0).f0)] ?_; (with_reducible refine (spec_GetFile.calls k1 _ _ l1 ((rd_T31 l0 a0).f0) d8 true _ ?s1 ?s2 A7.out).mono ?_); (case s1 => exact zC (Kd.C_below b5.out HB.out)); (case s2 => exact d6.out); rintro e w' ⟨rfl, ⟨nd, rfl⟩⟩; refine ⟨_, rfl, ?_⟩; have b0 : 0 ≤ (a0 : Int) := zD; have b1 : a0 < (l0.length : Int) := zD; obtain ⟨d9, e0, b7, b8⟩ := at_T31 a6.out a0 b0 b1; obtain rfl : b6 = d9 := (by injection e0); replace b7 := zx HB b7; replace b8 := zx HB b8; replace b0 := eq_true b0; replace b1 := eq_true b1))
      go_roundg k1
      case measure => have := a5.out; omega
      case rel => exact ⟨(a7), (wrap64 (a0 + 1)), zS, H', ⟨by have := a5.out; omega⟩, ⟨zR a2.out⟩, ⟨zB⟩⟩
     have g5 := beq_eq_false_iff_ne.mpr c9; have g6 := bne_iff_ne.mpr c9; replace H := zC0 H; obtain ⟨e1, H⟩ := H; have i0 := zA e1; clear e1; obtain ⟨g7, e2⟩ : ∃ y_ : List ByteArray, y_ = (a7 ++ [(rd_T31 l0 a0).f0]) := ⟨_, rfl⟩; replace H : (spec_DiffFiles.l0 k1 l0 l1 g7 (wrap64 (a0 + 1))) = some r := zY e2 H; have i1 := zA e2; clear e2; have H' := zA H; clear H; have a3 : 0 ≤ (a0 : Int) := zD; have a4 : a0 < (l0.length : Int) := zD; obtain ⟨b6, c4, a8, a9⟩ := at_T31 a6.out a0 a3 a4; cases c4; replace a8 := zx HB a8; replace a9 := zx HB a9; replace a3 := eq_true a3; replace a4 := eq_true a4
     go_wp2_with (first | ((with_reducible refine zq 22 ?_); refine zg (some 26) Tryd.func22 #[.slice A1 l1.length c1, .string ((rd_T31 l0 a0).f0)] ?_; (with_reducible refine (spec_GetFile.calls k1 _ _ l1 ((rd_T31 l0 a0).f0) d8 true _ ?s1 ?s2 A7.out).mono ?_); (case s1 => exact zC (Kd.C_below b5.out HB.out)); (case s2 => exact d6.out); rintro e w' ⟨rfl, ⟨nd, rfl⟩⟩; refine ⟨_, rfl, ?_⟩; have b0 : 0 ≤ (a0 : Int) := zD; have b1 : a0 < (l0.length : Int) := zD; obtain ⟨d9, e0, b7, b8⟩ := at_T31 a6.out a0 b0 b1; obtain rfl : b6 = d9 := (by injection e0); replace b7 := zx HB b7; replace b8 := zx HB b8; replace b0 := eq_true b0; replace b1 := eq_true b1; have d1 : 0 ≤ (a0 : Int) := zD; have d2 : a0 < (l0.length : Int) := zD; obtain ⟨i2, i3, e3, e4⟩ := at_T31 a6.out a0 d1 d2; obtain rfl : b6 = i2 := (by injection i3); replace e3 := zx HB e3; replace e4 := zx HB e4; replace d1 := eq_true d1; replace d2 := eq_true d2) | ((with_reducible refine gate_builtin (b := .append) (xs := #[.tmp 40, .tmp 46]) rfl ?_); at_builtin; refine Kd.R_append Kd.string (w0 := w) w.heap.size rfl (.tmp 40) (.tmp 46) 47 9 (.string ⟨#[]⟩) 16 rfl Tryd.underlying47 info9 rfl (by decide) (by omega) u5 a7 ((rd_T31 l0 a0).f0) [.string ((rd_T31 l0 a0).f0)] (fun _ => True) (fun _ => False) rfl rfl ?aP (fun _ hk => hk.elim) ?aF ?aO ?aB ?aS ?aL ?_; (case aP => exact rfl); (case aB => exact (zB)); (case aF => exact (fun _ _ => trivial)); (case aO => exact (zR a2.out)); (case aS => exact (below_size (zB))); (case aL => have := i0.out; omega); intro k6 k7 ho hb hg hat; rw [← i1.out] at ho; replace HB := zA (hb); have i4 := zA (ho); clear a2; clear ho hb hg hat))
     go_roundg k1
     case measure => have := a5.out; omega
     case rel => exact ⟨(g7), (wrap64 (a0 + 1)), zS, H', ⟨by have := a5.out; omega⟩, ⟨zR i4.out⟩, ⟨zB⟩⟩
    replace H := zC0 H; obtain ⟨e5, H⟩ := H; have i5 := zA e5; clear e5; obtain ⟨g8, e6⟩ : ∃ y_ : List ByteArray, y_ = (a7 ++ [(rd_T31 l0 a0).f0]) := ⟨_, rfl⟩; replace H : (spec_DiffFiles.l0 k1 l0 l1 g8 (wrap64 (a0 + 1))) = some r := zY e6 H; have i6 := zA e6; clear e6; have H' := zA H; clear H; have a3 : 0 ≤ (a0 : Int) := zD; have a4 : a0 < (l0.length : Int) := zD; obtain ⟨b6, c4, a8, a9⟩ := at_T31 a6.out a0 a3 a4; cases c4; replace a8 := zx HB a8; replace a9 := zx HB a9; replace a3 := eq_true a3; replace a4 := eq_true a4
    go_wp2_with (first | ((with_reducible refine zq 22 ?_); refine zg (some 26) Tryd.func22 #[.slice A1 l1.length c1, .string ((rd_T31 l0 a0).f0)] ?_; (with_reducible refine (spec_GetFile.calls k1 _ _ l1 ((rd_T31 l0 a0).f0) d8 false _ ?s1 ?s2 A7.out).mono ?_); (case s1 => exact zC (Kd.C_below b5.out HB.out)); (case s2 => exact d6.out); rintro e w' ⟨rfl, ⟨nd, rfl⟩⟩; refine ⟨_, rfl, ?_⟩; have d3 : 0 ≤ (a0 : Int) := zD; have d4 : a0 < (l0.length : Int) := zD; obtain ⟨i7, i8, e7, e8⟩ := at_T31 a6.out a0 d3 d4; obtain rfl : b6 = i7 := (by injection i8); replace e7 := zx HB e7; replace e8 := zx HB e8; replace d3 := eq_true d3; replace d4 := eq_true d4) | ((with_reducible refine gate_builtin (b := .append) (xs := #[.tmp 40, .tmp 46]) rfl ?_); at_builtin; refine Kd.R_append Kd.string (w0 := w) w.heap.size rfl (.tmp 40) (.tmp 46) 47 9 (.string ⟨#[]⟩) 16 rfl Tryd.underlying47 info9 rfl (by decide) (by omega) u5 a7 ((rd_T31 l0 a0).f0) [.string ((rd_T31 l0 a0).f0)] (fun _ => True) (fun _ => False) rfl rfl ?aP (fun _ hk => hk.elim) ?aF ?aO ?aB ?aS ?aL ?_; (case aP => exact rfl); (case aB => exact (zB)); (case aF => exact (fun _ _ => trivial)); (case aO => exact (zR a2.out)); (case aS => exact (below_size (zB))); (case aL => have := i5.out; omega); intro k8 k9 ho hb hg hat; rw [← i6.out] at ho; replace HB := zA (hb); have i9 := zA (ho); clear a2; clear ho hb hg hat))
    go_roundg k1
    case measure => have := a5.out; omega
    case rel => exact ⟨(g8), (wrap64 (a0 + 1)), zS, H', ⟨by have := a5.out; omega⟩, ⟨zR i9.out⟩, ⟨zB⟩⟩
   have H' := zA H; clear H
   go_wp2
   go_loopg [5, 9] k1 (fun kq v5 v9 w' => ∃ (b2 : List ByteArray) (a1 : Int), v9 = .int .i64 a1 ∧ Aside0 (spec_DiffFiles.l1 kq l0 l1 b2 a1 = some r) ∧ Aside0 (kq ≤ k1) ∧ Aside0 (Kd.R Kd.string 9 w' w.heap.size (fun _ => True) v5 b2) ∧ Aside0 (Below w.heap.size w w'))
   case atStart => exact ⟨(a7), (0), zS, H', ⟨Nat.le_refl _⟩, ⟨zR a2.out⟩, ⟨zB⟩⟩
   case round =>
    clear H'
    try clear c1
    try clear c2
    try clear p2
    try clear c3
    try clear p4
    try clear q4
    try clear hx4
    try clear c5
    try clear g3
    try clear c6
    try clear h9
    try clear p6
    try clear c8
    try clear c9
    try clear g5
    try clear g6
    try clear e1
    try clear e5
    try clear a8
    try clear a9
    try clear b7
    try clear b8
    try clear e3
    try clear e4
    try clear e7
    try clear e8
    try clear p2
    try clear a3
    try clear b0
    try clear d1
    try clear d3
    try clear a4
    try clear b1
    try clear d2
    try clear d4
    obtain ⟨b2, a1, rfl, HA, d5, a2, HB⟩ := hrel
    cases gk with
    | zero => exact absurd HA.out (by simp [spec_DiffFiles.l1])
    | succ k2 =>
     have H := HA.out; clear HA; simp only [spec_DiffFiles.l1] at H; replace H := zI0 H
     rcases H with ⟨j0, H⟩ | ⟨j0, H⟩
     ·replace H := zD0 H; obtain ⟨l2, H⟩ := H; replace H := Option.bind_eq_some_iff.mp H; obtain ⟨⟨g9, l3⟩, h0, H⟩ := H
      try dsimp only at H
      have h1 := zA h0; clear h0; replace H := zB0 H
      rcases H with ⟨rfl, H⟩ | ⟨rfl, H⟩
      ·have H' := zA H; clear H; have b3 : 0 ≤ (a1 : Int) := zD; have b4 : a1 < (l1.length : Int) := zD; obtain ⟨h2, e9, c7, d0⟩ := at_T31 b5.out a1 b3 b4; cases e9; replace c7 := zx HB c7; replace d0 := zx HB d0; replace b3 := eq_true b3; replace b4 := eq_true b4
       go_wp2_with (first | ((with_reducible refine zq 22 ?_); refine zg (some 61) Tryd.func22 #[.slice A0 l0.length c0, .string ((rd_T31 l1 a1).f0)] ?_; (with_reducible refine (spec_GetFile.calls k2 _ _ l0 ((rd_T31 l1 a1).f0) g9 true _ ?s1 ?s2 h1.out).mono ?_); (case s1 => exact zC (Kd.C_below a6.out HB.out)); (case s2 => exact g0.out); rintro e w' ⟨rfl, ⟨nd, rfl⟩⟩; refine ⟨_, rfl, ?_⟩))
       go_roundg k2
       case measure => have := a5.out; have := d5.out; omega
       case rel => exact ⟨(b2), (wrap64 (a1 + 1)), zS, H', ⟨by have := a5.out; have := d5.out; omega⟩, ⟨zR a2.out⟩, ⟨zB⟩⟩
      replace H := zC0 H; obtain ⟨h3, H⟩ := H; have j1 := zA h3; clear h3; obtain ⟨h4, f1⟩ : ∃ y_ : List ByteArray, y_ = (b2 ++ [(rd_T31 l1 a1).f0]) := ⟨_, rfl⟩; replace H : (spec_DiffFiles.l1 k2 l0 l1 h4 (wrap64 (a1 + 1))) = some r := zY f1 H; have j2 := zA f1; clear f1; have H' := zA H; clear H; have b3 : 0 ≤ (a1 : Int) := zD; have b4 : a1 < (l1.length : Int) := zD; obtain ⟨h2, e9, c7, d0⟩ := at_T31 b5.out a1 b3 b4; cases e9; replace c7 := zx HB c7; replace d0 := zx HB d0; replace b3 := eq_true b3; replace b4 := eq_true b4
      go_wp2_with (first | ((with_reducible refine zq 22 ?_); refine zg (some 61) Tryd.func22 #[.slice A0 l0.length c0, .string ((rd_T31 l1 a1).f0)] ?_; (with_reducible refine (spec_GetFile.calls k2 _ _ l0 ((rd_T31 l1 a1).f0) g9 false _ ?s1 ?s2 h1.out).mono ?_); (case s1 => exact zC (Kd.C_below a6.out HB.out)); (case s2 => exact g0.out); rintro e w' ⟨rfl, ⟨nd, rfl⟩⟩; refine ⟨_, rfl, ?_⟩; have f2 : 0 ≤ (a1 : Int) := zD; have f3 : a1 < (l1.length : Int) := zD; obtain ⟨j3, j4, h5, h6⟩ := at_T31 b5.out a1 f2 f3; obtain rfl : h2 = j3 := (by injection j4); replace h5 := zx HB h5; replace h6 := zx HB h6; replace f2 := eq_true f2; replace f3 := eq_true f3) | ((with_reducible refine gate_builtin (b := .append) (xs := #[.tmp 66, .tmp 72]) rfl ?_); at_builtin; refine Kd.R_append Kd.string (w0 := w) w.heap.size rfl (.tmp 66) (.tmp 72) 47 9 (.string ⟨#[]⟩) 16 rfl Tryd.underlying47 info9 rfl (by decide) (by omega) u5 b2 ((rd_T31 l1 a1).f0) [.string ((rd_T31 l1 a1).f0)] (fun _ => True) (fun _ => False) rfl rfl ?aP (fun _ hk => hk.elim) ?aF ?aO ?aB ?aS ?aL ?_; (case aP => exact rfl); (case aB => exact (zB)); (case aF => exact (fun _ _ => trivial)); (case aO => exact (zR a2.out)); (case aS => exact (below_size (zB))); (case aL => have := j1.out; omega); intro l4 l5 ho hb hg hat; rw [← j2.out] at ho; replace HB := zA (hb); have j5 := zA (ho); clear a2; clear ho hb hg hat))
      go_roundg k2
      case measure => have := a5.out; have := d5.out; omega
      case rel => exact ⟨(h4), (wrap64 (a1 + 1)), zS, H', ⟨by have := a5.out; have := d5.out; omega⟩, ⟨zR j5.out⟩, ⟨zB⟩⟩
     replace H := Option.bind_eq_some_iff.mp H; obtain ⟨j6, h7, H⟩ := H
     try dsimp only at H
     have j7 := zA h7; clear h7; obtain rfl := zm H; obtain ⟨j8, j9, k0⟩ := Kd.R_slice a2.out; subst k0
     go_wp2_with (first | ((with_reducible refine zq 77 ?_); refine zg (some 75) Tryd.func77 #[.slice j8 b2.length j9] ?_; (with_reducible refine (spec_Sorted.calls k2 _ _ b2 j6 _ ?s1 ?s2 j7.out).mono ?_); (case s1 => repeat (first | exact (Kd.R_reads' a2.out).2.2 | (with_reducible refine Kd.C_alloc ?_ _) | (with_reducible refine Kd.C_drewN ?_ _) | (with_reducible refine Kd.C_drew ?_))); (case s2 => exact (Kd.R_reads' a2.out).2.1); rintro e l6 ⟨l7, rfl, f4, hb⟩; refine ⟨_, rfl, ?_⟩; have k3 := zA (Kd.R_lower (Kd.R_new' f4 (Kd.R_lt (zR a2.out))) (below_size (zB))); replace a2 := zA (Kd.R_elder' (zR a2.out) (Kd.R_base f4) hb); replace HB := zA (below_step (zB) hb); (try clear hb f4)))
     go_ret
     exact ⟨_, zE, zR (Kd.R_mono k3.out (fun _ hk => trivial)), zB⟩
/-! ### laws_ascending: function 35 -/
def laws_ascending.l0 : Nat → List ByteArray → Int → Option (Bool)
 | 0, _, _ => none
 | k + 1, x0, x3 => if x3 < (x0.length : Int) then (if 0 ≤ (wrap64 (x3 - 1)) then (if (wrap64 (x3 - 1)) < (x0.length : Int) then (if 0 ≤ x3 then (if ((Op.bytesLess ((rdOf ByteArray.empty x0 (wrap64 (x3 - 1))).toList) ((rdOf ByteArray.empty x0 x3).toList)) = true) then (laws_ascending.l0 k x0 (wrap64 (x3 + 1))) else (some false)) else (none)) else (none)) else (none)) else (some true)
def laws_ascending.f (k : Nat) (l0 : List ByteArray) : Option (Bool) := laws_ascending.l0 k l0 1
theorem laws_ascending.calls (k : Nat) (A0 : Option Addr) (c0 : Nat) (l0 : List ByteArray) (r : Bool) (w : World) (b2 : Kd.C Kd.string w A0 l0.length l0) (b3 : l0.length ≤ c0) (h : laws_ascending.f k l0 = some r) :
  Calls Tryd.prog 35 #[.slice A0 l0.length c0] w fun e w' => e = .returned (.bool r) ∧ Drawn0 w w' := by
 have a6 := zA b2
 have b9 := zA b3
 clear b2 b3
 unfold laws_ascending.f at h
 have H := h
 clear h
 have H' := zA H
 clear H
 go_enter Tryd.func35, Tryd.ntmps35
 go_wp2
 repeat (go_quiet (fail); try go_wp2)
 go_loopg [3] k (fun kq v3 w' => ∃ (a0 : Int), v3 = .int .i64 a0 ∧ Aside0 (laws_ascending.l0 kq l0 a0 = some r) ∧ Aside0 (kq ≤ k) ∧ Drawn0 w w')
 case atStart => exact ⟨(1), zS, H', ⟨Nat.le_refl _⟩, by repeat (first | exact Drawn0.refl _ | apply Drawn0.step)⟩
 case round =>
  clear H'; obtain ⟨a0, rfl, HA, b4, ⟨m1, rfl⟩⟩ := hrel
  cases gk with
  | zero => exact absurd HA.out (by simp [laws_ascending.l0])
  | succ k1 =>
   have H := HA.out; clear HA; simp only [laws_ascending.l0] at H; replace H := zI0 H
   rcases H with ⟨b5, H⟩ | ⟨b5, H⟩
   ·obtain ⟨a1, a7⟩ : ∃ j_ : Int, (wrap64 (a0 - 1)) = j_ := ⟨_, rfl⟩
    replace H : (if 0 ≤ (a1) then (if (a1) < (l0.length : Int) then (if 0 ≤ a0 then (if ((Op.bytesLess ((rdOf ByteArray.empty l0 (a1)).toList) ((rdOf ByteArray.empty l0 a0).toList)) = true) then (laws_ascending.l0 k1 l0 (wrap64 (a0 + 1))) else (some false)) else (none)) else (none)) else (none)) = some r := by first | (rw [a7] at H; exact H) | (simp only [a7] at H ⊢; exact H)
    have hji3w : (IntKind.i64.wrap (a0 - 1)) = a1 := (i64_w _).trans a7; replace H := zD0 H; obtain ⟨c1, H⟩ := H; replace H := zD0 H; obtain ⟨c2, H⟩ := H; replace H := zD0 H; obtain ⟨c3, H⟩ := H; replace H := zI1 H
    rcases H with ⟨c7, H⟩ | ⟨c7, H⟩
    ·have b6 : (Op.bytesLess ((rdOf ByteArray.empty l0 (a1)).toList) ((rdOf ByteArray.empty l0 a0).toList)) = true := c7; clear c7; have H' := zA H; clear H; have a2 : 0 ≤ ((a1) : Int) := zD; have a3 : (a1) < (l0.length : Int) := zD; obtain ⟨a8, a9, b7⟩ := Kd.at_string a6.out (a1) a2 a3; cases a9; replace a2 := eq_true a2; replace a3 := eq_true a3; have a4 : 0 ≤ (a0 : Int) := zD; have a5 : a0 < (l0.length : Int) := zD; obtain ⟨b0, b1, b8⟩ := Kd.at_string a6.out a0 a4 a5; obtain rfl : a8 = b0 := (by injection b1); replace a4 := eq_true a4; replace a5 := eq_true a5
     go_wp2
     repeat (go_quiet (fail); try go_wp2)
     go_roundg k1
     case measure => have := b4.out; omega
     case rel => exact ⟨(wrap64 (a0 + 1)), zS, H', ⟨by have := b4.out; omega⟩, by repeat (first | exact Drawn0.refl _ | apply Drawn0.step)⟩
    have b6 : (Op.bytesLess ((rdOf ByteArray.empty l0 (a1)).toList) ((rdOf ByteArray.empty l0 a0).toList)) = false := by simpa using c7
    clear c7; obtain rfl := zm H; have a2 : 0 ≤ ((a1) : Int) := zD; have a3 : (a1) < (l0.length : Int) := zD; obtain ⟨a8, a9, b7⟩ := Kd.at_string a6.out (a1) a2 a3; cases a9; replace a2 := eq_true a2; replace a3 := eq_true a3; have a4 : 0 ≤ (a0 : Int) := zD; have a5 : a0 < (l0.length : Int) := zD; obtain ⟨b0, b1, b8⟩ := Kd.at_string a6.out a0 a4 a5; obtain rfl : a8 = b0 := (by injection b1); replace a4 := eq_true a4; replace a5 := eq_true a5
    go_wp2
    repeat (go_quiet (fail); try go_wp2)
    go_ret
    exact ⟨by first | rfl | (simp; done) | (simp only [← a7] <;> (first | rfl | simp)) | (simp [*]; done), by repeat (first | exact Drawn0.refl _ | apply Drawn0.step)⟩
   obtain rfl := zm H
   go_wp2
   repeat (go_quiet (fail); try go_wp2)
   go_ret
   exact ⟨by first | rfl | (simp; done) | (simp [*]; done) | (simp; rw [Bool.eq_iff_iff]; simp; done), by repeat (first | exact Drawn0.refl _ | apply Drawn0.step)⟩
/-! ### laws_FnFilesBent: function 4 -/
def laws_FnFilesBent.j0 : Nat → List Int → Option (Bool)
 | 0, _ => none
 | k + 1, x0 => (spec_DrawPathOk.f k x0).bind fun a3 => ((spec_DrawFilesOk.f k x0).bind fun a4 => ((spec_DrawGetFile.f k x0).bind fun a1 => ((impl_GetFile.f a1.1 a1.2).bind fun a5 => ((spec_GetFile.f k a1.1 a1.2).bind fun a6 => ((spec_DrawDropFile.f k x0).bind fun a2 => ((impl_DropFile.f k a2.1 a2.2).bind fun a7 => ((spec_DropFile.f k a2.1 a2.2).bind fun a8 => ((spec_DrawDiffFiles.f k x0).bind fun a0 => ((impl_DiffFiles.f k a0.1 a0.2).bind fun a9 => ((impl_PathOk.f k a3).bind fun b0 => ((spec_PathOk.f k a3).bind fun b1 => (if (b0 == b1) = true then ((impl_FilesOk.f k a4).bind fun b2 => ((spec_FilesOk.f k a4).bind fun b3 => (if (b2 == b3) = true then (if (a5.2 == a6.2) = true then (if a5.1.toList = a6.1.toList then (if (a7.2 == a8.2) = true then ((laws_sameFiles.f k a7.1 a8.1).bind fun b4 => (if b4 = true then ((spec_DiffFiles.f k a0.1 a0.2).bind fun b5 => ((laws_sameTexts.f k a9 b5).bind fun b6 => (if b6 = true then ((laws_ascending.f k a9).bind fun b7 => (if b7 = true then ((impl_DiffFiles.f k a0.1 a0.1).bind fun b8 => (some ((b8.length : Int) == 0))) else (none))) else (none)))) else (none))) else (none)) else (none)) else (none)) else (none)))) else (none)))))))))))))
def laws_FnFilesBent.f (k : Nat) (l0 : List Int) : Option (Bool) := (laws_big.f l0).bind fun a0 => (if a0 = true then (some true) else (laws_FnFilesBent.j0 k l0))
theorem laws_FnFilesBent.calls (k : Nat) (A0 : Option Addr) (c0 : Nat) (l0 : List Int) (r : Bool) (w : World) (e0 : Kd.C (Kd.int .u8) w A0 l0.length l0) (e1 : l0.length ≤ c0) (hG : GW w) (h : laws_FnFilesBent.f k l0 = some r) :
  Calls Tryd.prog 4 #[.slice A0 l0.length c0] w fun e w' => e = .returned (.bool r) ∧ Below w.heap.size w w' := by
 have b1 := zA e0
 have b2 := zA e1
 clear e0 e1
 have HG := zA hG
 clear hG
 have HB := zA (Below.refl w.heap.size w)
 unfold laws_FnFilesBent.f at h
 have H := h
 clear h
 replace H := Option.bind_eq_some_iff.mp H
 obtain ⟨g9, e2, H⟩ := H
 try dsimp only at H
 have A2 := zA e2
 clear e2
 have d6 := zA H
 clear H
 go_enter Tryd.func4, Tryd.ntmps4
 go_upto_if 21 with (first | ((with_reducible refine zq 17 ?_); refine zg (some 21) Tryd.func17 #[.slice A0 l0.length c0] ?_; (with_reducible refine (laws_big.calls _ _ l0 g9 _ ?s1 ?s2 A2.out).mono ?_); (case s1 => repeat (first | exact b1.out | (with_reducible refine Kd.C_alloc ?_ _) | (with_reducible refine Kd.C_drewN ?_ _) | (with_reducible refine Kd.C_drew ?_))); (case s2 => exact b2.out); rintro e w' ⟨rfl, ⟨nd, rfl⟩⟩; refine ⟨_, rfl, ?_⟩))
 (try simp only [Act.put, zT])
 go_cut [] (fun wc => ∃ (kq : Nat), Aside0 (laws_FnFilesBent.j0 kq l0 = some r) ∧ Aside0 (kq ≤ k) ∧ Aside0 (Below w.heap.size w wc))
 case first =>
  have H := d6.out; clear d6; replace H := zB0 H
  rcases H with ⟨rfl, H⟩ | ⟨rfl, H⟩
  ·obtain rfl := zm H
   go_wp2
   go_ret
   exact ⟨zE, zB⟩
  have H' := zA H; clear H
  go_wp2
  go_meet
  case rel => exact ⟨_, (by first | exact H' | (subst_vars; exact H')), ⟨by first | omega | exact Nat.le_refl _⟩, ⟨zB⟩⟩
 case rest =>
  clear d6
  try clear c1
  try clear p2
  try clear c4
  obtain ⟨kq, HA, k3, HB⟩ := hcut
  cases kq with
  | zero => exact absurd HA.out (by simp [laws_FnFilesBent.j0])
  | succ a9 =>
   have H := HA.out; clear HA; simp only [laws_FnFilesBent.j0] at H; replace H := Option.bind_eq_some_iff.mp H; obtain ⟨b5, e3, H⟩ := H
   try dsimp only at H
   have A5 := zA e3; clear e3; replace H := Option.bind_eq_some_iff.mp H; obtain ⟨d7, e4, H⟩ := H
   try dsimp only at H
   have A6 := zA e4; clear e4; replace H := Option.bind_eq_some_iff.mp H; obtain ⟨⟨b6, b7⟩, e5, H⟩ := H
   try dsimp only at H
   have A7 := zA e5; clear e5; replace H := Option.bind_eq_some_iff.mp H; obtain ⟨⟨h0, c2⟩, e6, H⟩ := H
   try dsimp only at H
   have A8 := zA e6; clear e6; replace H := Option.bind_eq_some_iff.mp H; obtain ⟨⟨h1, c3⟩, e7, H⟩ := H
   try dsimp only at H
   have A9 := zA e7; clear e7; replace H := Option.bind_eq_some_iff.mp H; obtain ⟨⟨b8, b9⟩, e8, H⟩ := H
   try dsimp only at H
   have h2 := zA e8; clear e8; replace H := Option.bind_eq_some_iff.mp H; obtain ⟨⟨e9, c5⟩, f0, H⟩ := H
   try dsimp only at H
   have h3 := zA f0; clear f0; replace H := Option.bind_eq_some_iff.mp H; obtain ⟨⟨f1, c6⟩, f2, H⟩ := H
   try dsimp only at H
   have h4 := zA f2; clear f2; replace H := Option.bind_eq_some_iff.mp H; obtain ⟨⟨b3, c7⟩, f3, H⟩ := H
   try dsimp only at H
   have h5 := zA f3; clear f3; replace H := Option.bind_eq_some_iff.mp H; obtain ⟨d8, f4, H⟩ := H
   try dsimp only at H
   have h6 := zA f4; clear f4; replace H := Option.bind_eq_some_iff.mp H; obtain ⟨c8, f5, H⟩ := H
   try dsimp only at H
   have h7 := zA f5; clear f5; replace H := Option.bind_eq_some_iff.mp H; obtain ⟨c9, f6, H⟩ := H
   try dsimp only at H
   have h8 := zA f6; clear f6; replace H := zC0 H; obtain ⟨d0, H⟩ := H; have k4 : (c8 == c9) = true := d0
   (try (have k5 : decide (c8 = c9) = true := by simpa using d0))
   (try (have k6 : (c8 == c9) = true := by simpa using d0))
   clear d0; replace H := Option.bind_eq_some_iff.mp H; obtain ⟨d1, f7, H⟩ := H
   try dsimp only at H
   have h9 := zA f7; clear f7; replace H := Option.bind_eq_some_iff.mp H; obtain ⟨d2, f8, H⟩ := H
   try dsimp only at H
   have i0 := zA f8; clear f8; replace H := zC0 H; obtain ⟨d3, H⟩ := H; have k7 : (d1 == d2) = true := d3
   (try (have k8 : decide (d1 = d2) = true := by simpa using d3))
   (try (have k9 : (d1 == d2) = true := by simpa using d3))
   clear d3; replace H := zC0 H; obtain ⟨d4, H⟩ := H; have l1 : (c2 == c3) = true := d4
   (try (have l2 : decide (c2 = c3) = true := by simpa using d4))
   (try (have l3 : (c2 == c3) = true := by simpa using d4))
   clear d4; replace H := zC0 H; obtain ⟨d9, H⟩ := H; have l4 := beq_iff_eq.mpr d9; have l5 := bne_eq_false_iff_eq.mpr d9; clear d9; replace H := zC0 H; obtain ⟨d5, H⟩ := H; have l6 : (c5 == c6) = true := d5
   (try (have l7 : decide (c5 = c6) = true := by simpa using d5))
   (try (have l8 : (c5 == c6) = true := by simpa using d5))
   clear d5; replace H := Option.bind_eq_some_iff.mp H; obtain ⟨l9, f9, H⟩ := H
   try dsimp only at H
   have i1 := zA f9; clear f9; replace H := zB0 H
   rcases H with ⟨rfl, H⟩ | ⟨rfl, H⟩
   ·replace H := Option.bind_eq_some_iff.mp H; obtain ⟨g0, g1, H⟩ := H
    try dsimp only at H
    have i2 := zA g1; clear g1; replace H := Option.bind_eq_some_iff.mp H; obtain ⟨m0, g2, H⟩ := H
    try dsimp only at H
    have i3 := zA g2; clear g2; replace H := zB0 H
    rcases H with ⟨rfl, H⟩ | ⟨rfl, H⟩
    ·replace H := Option.bind_eq_some_iff.mp H; obtain ⟨m1, g3, H⟩ := H
     try dsimp only at H
     have i4 := zA g3; clear g3; replace H := zB0 H
     rcases H with ⟨rfl, H⟩ | ⟨rfl, H⟩
     ·replace H := Option.bind_eq_some_iff.mp H; obtain ⟨i5, g4, H⟩ := H
      try dsimp only at H
      have i6 := zA g4; clear g4; obtain rfl := zm H
      go_wp2_with (first | ((with_reducible refine zq 18 ?_); refine zg (some 23) Tryd.func18 #[.slice A0 l0.length c0] ?_; (with_reducible refine (spec_DrawPathOk.calls a9 _ _ l0 b5 _ ?s1 ?s2 A5.out).mono ?_); (case s1 => exact zC (Kd.C_below b1.out HB.out)); (case s2 => exact b2.out); rintro e m2 ⟨rfl, hb⟩; refine ⟨_, rfl, ?_⟩; replace HB := zA (below_step (zB) hb); (try clear hb)) | ((with_reducible refine zq 19 ?_); refine zg (some 25) Tryd.func19 #[.slice A0 l0.length c0] ?_; (with_reducible refine (spec_DrawFilesOk.calls a9 _ _ l0 d7 _ ?s1 ?s2 A6.out).mono ?_); (case s1 => exact zC (Kd.C_below b1.out HB.out)); (case s2 => exact b2.out); rintro e m3 ⟨m4, rfl, a0, hb⟩; refine ⟨_, rfl, ?_⟩; have a1 := zA (Kd.R_lower a0 (below_size (zB))); replace HB := zA (below_step (zB) hb); (try clear hb a0)) | ((with_reducible refine zq 20 ?_); refine zg (some 28) Tryd.func20 #[.slice A0 l0.length c0] ?_; (with_reducible refine (spec_DrawGetFile.calls a9 _ _ l0 b6 b7 _ ?s1 ?s2 A7.out).mono ?_); (case s1 => exact zC (Kd.C_below b1.out HB.out)); (case s2 => exact b2.out); rintro e m5 ⟨m6, rfl, a0, hb⟩; refine ⟨_, rfl, ?_⟩; have a2 := zA (Kd.R_lower (Kd.R_new' a0 (Kd.R_lt (zR a1.out))) (below_size (zB))); replace a1 := zA (Kd.R_elder' (zR a1.out) (Kd.R_base a0) hb); replace HB := zA (below_step (zB) hb); (try clear hb a0); obtain ⟨g5, g6, i7⟩ := Kd.R_slice a2.out; subst i7) | ((with_reducible refine zq 21 ?_); refine zg (some 34) Tryd.func21 #[.slice g5 b6.length g6, .string b7] ?_; (with_reducible refine (impl_GetFile.calls _ _ b6 b7 h0 c2 _ ?s1 ?s2 A8.out).mono ?_); (case s1 => repeat (first | exact (Kd.R_reads' a2.out).2.2 | (with_reducible refine Kd.C_alloc ?_ _) | (with_reducible refine Kd.C_drewN ?_ _) | (with_reducible refine Kd.C_drew ?_))); (case s2 => (first | exact Nat.le_refl _ | exact (Kd.R_reads' a2.out).2.1)); rintro e m7 ⟨rfl, hb⟩; refine ⟨_, rfl, ?_⟩; replace a1 := zr a1 hb; replace a2 := zr a2 hb; replace HB := zA (below_step (zB) hb); (try clear hb)) | ((with_reducible refine zq 22 ?_); refine zg (some 40) Tryd.func22 #[.slice g5 b6.length g6, .string b7] ?_; (with_reducible refine (spec_GetFile.calls a9 _ _ b6 b7 h1 c3 _ ?s1 ?s2 A9.out).mono ?_); (case s1 => repeat (first | exact (Kd.R_reads' a2.out).2.2 | (with_reducible refine Kd.C_alloc ?_ _) | (with_reducible refine Kd.C_drewN ?_ _) | (with_reducible refine Kd.C_drew ?_))); (case s2 => (first | exact Nat.le_refl _ | exact (Kd.R_reads' a2.out).2.1)); rintro e w' ⟨rfl, ⟨nd, rfl⟩⟩; refine ⟨_, rfl, ?_⟩) | ((with_reducible refine zq 23 ?_); refine zg (some 45) Tryd.func23 #[.slice A0 l0.length c0] ?_; (with_reducible refine (spec_DrawDropFile.calls a9 _ _ l0 b8 b9 _ ?s1 ?s2 h2.out).mono ?_); (case s1 => repeat (first | exact (Kd.C_below b1.out (zB)) | (with_reducible refine Kd.C_alloc ?_ _) | (with_reducible refine Kd.C_drewN ?_ _) | (with_reducible refine Kd.C_drew ?_))); (case s2 => exact b2.out); rintro e m8 ⟨m9, rfl, a0, hb⟩; refine ⟨_, rfl, ?_⟩; have a3 := zA (Kd.R_lower (Kd.R_new' (Kd.R_new' a0 (Kd.R_lt (zR a1.out))) (Kd.R_lt (zR a2.out))) (below_size (zB))); replace a1 := zA (Kd.R_elder' (zR a1.out) (Kd.R_base a0) hb); replace a2 := zA (Kd.R_elder' (zR a2.out) (Kd.R_base a0) hb); replace HB := zA (below_step (zB) hb); (try clear hb a0); obtain ⟨g7, g8, i8⟩ := Kd.R_slice a3.out; subst i8) | ((with_reducible refine zq 24 ?_); refine zg (some 51) Tryd.func24 #[.slice g7 b8.length g8, .string b9] ?_; (with_reducible refine (impl_DropFile.calls a9 _ _ b8 b9 e9 c5 _ ?s1 ?s2 ?s3 h3.out).mono ?_); (case s1 => repeat (first | exact (Kd.R_reads' a3.out).2.2 | (with_reducible refine Kd.C_alloc ?_ _) | (with_reducible refine Kd.C_drewN ?_ _) | (with_reducible refine Kd.C_drew ?_))); (case s2 => (first | exact Nat.le_refl _ | exact (Kd.R_reads' a3.out).2.1)); (case s3 => exact GW.below HG.out (zB)); rintro e n0 ⟨n1, rfl, a0, hb⟩; refine ⟨_, rfl, ?_⟩; have a4 := zA (Kd.R_lower (Kd.R_new' (Kd.R_new' (Kd.R_new' a0 (Kd.R_lt (zR a1.out))) (Kd.R_lt (zR a2.out))) (Kd.R_lt (zR a3.out))) (below_size (zB))); replace a1 := zA (Kd.R_elder' (zR a1.out) (Kd.R_base a0) hb); replace a2 := zA (Kd.R_elder' (zR a2.out) (Kd.R_base a0) hb); replace a3 := zA (Kd.R_elder' (zR a3.out) (Kd.R_base a0) hb); replace HB := zA (below_step (zB) hb); (try clear hb a0)) | ((with_reducible refine zq 25 ?_); refine zg (some 57) Tryd.func25 #[.slice g7 b8.length g8, .string b9] ?_; (with_reducible refine (spec_DropFile.calls a9 _ _ b8 b9 f1 c6 _ ?s1 ?s2 h4.out).mono ?_); (case s1 => repeat (first | exact (Kd.R_reads' a3.out).2.2 | (with_reducible refine Kd.C_alloc ?_ _) | (with_reducible refine Kd.C_drewN ?_ _) | (with_reducible refine Kd.C_drew ?_))); (case s2 => (first | exact Nat.le_refl _ | exact (Kd.R_reads' a3.out).2.1)); rintro e n2 ⟨n3, rfl, a0, hb⟩; refine ⟨_, rfl, ?_⟩; have a6 := zA (Kd.R_lower (Kd.R_new' (Kd.R_new' (Kd.R_new' (Kd.R_new' a0 (Kd.R_lt (zR a1.out))) (Kd.R_lt (zR a2.out))) (Kd.R_lt (zR a3.out))) (Kd.R_lt (zR a4.out))) (below_size (zB))); replace a1 := zA (Kd.R_elder' (zR a1.out) (Kd.R_base a0) hb); replace a2 := zA (Kd.R_elder' (zR a2.out) (Kd.R_base a0) hb); replace a3 := zA (Kd.R_elder' (zR a3.out) (Kd.R_base a0) hb); replace a4 := zA (Kd.R_elder' (zR a4.out) (Kd.R_base a0) hb); replace HB := zA (below_step (zB) hb); (try clear hb a0)) | ((with_reducible refine zq 26 ?_); refine zg (some 62) Tryd.func26 #[.slice A0 l0.length c0] ?_; (with_reducible refine (spec_DrawDiffFiles.calls a9 _ _ l0 b3 c7 _ ?s1 ?s2 h5.out).mono ?_); (case s1 => exact zC (Kd.C_below b1.out HB.out)); (case s2 => exact b2.out); rintro e n4 ⟨n5, n6, rfl, a0, b0, hb⟩; refine ⟨_, rfl, ?_⟩; have a5 := zA (Kd.R_lower (Kd.R_new' (Kd.R_new' (Kd.R_new' (Kd.R_new' (Kd.R_new' a0 (Kd.R_lt (zR a1.out))) (Kd.R_lt (zR a2.out))) (Kd.R_lt (zR a3.out))) (Kd.R_lt (zR a4.out))) (Kd.R_lt (zR a6.out))) (below_size (zB))); have a7 := zA (Kd.R_lower (Kd.R_new' (Kd.R_new' (Kd.R_new' (Kd.R_new' (Kd.R_new' b0 (Kd.R_lt (zR a1.out))) (Kd.R_lt (zR a2.out))) (Kd.R_lt (zR a3.out))) (Kd.R_lt (zR a4.out))) (Kd.R_lt (zR a6.out))) (below_size (zB))); replace a1 := zA (Kd.R_mono (Kd.R_told (Kd.R_told (Kd.R_old (zR a1.out) hb) (Kd.R_base a0)) (Kd.R_base b0)) (fun _ h_ => h_.1)); replace a2 := zA (Kd.R_mono (Kd.R_told (Kd.R_told (Kd.R_old (zR a2.out) hb) (Kd.R_base a0)) (Kd.R_base b0)) (fun _ h_ => h_.1)); replace a3 := zA (Kd.R_mono (Kd.R_told (Kd.R_told (Kd.R_old (zR a3.out) hb) (Kd.R_base a0)) (Kd.R_base b0)) (fun _ h_ => h_.1)); replace a4 := zA (Kd.R_mono (Kd.R_told (Kd.R_told (Kd.R_old (zR a4.out) hb) (Kd.R_base a0)) (Kd.R_base b0)) (fun _ h_ => h_.1)); replace a6 := zA (Kd.R_mono (Kd.R_told (Kd.R_told (Kd.R_old (zR a6.out) hb) (Kd.R_base a0)) (Kd.R_base b0)) (fun _ h_ => h_.1)); replace HB := zA (below_step (zB) hb); (try clear hb a0 b0); obtain ⟨i9, j1, j2⟩ := Kd.R_slice a5.out; subst j2; obtain ⟨j3, j4, j5⟩ := Kd.R_slice a7.out; subst j5) | ((with_reducible refine zq 27 ?_); refine zg (some 67) Tryd.func27 #[.slice i9 b3.length j1, .slice j3 c7.length j4] ?_; (with_reducible refine (impl_DiffFiles.calls a9 _ _ b3 _ _ c7 d8 _ ?s1 ?s2 ?s3 ?s4 h6.out).mono ?_); (case s1 => repeat (first | exact (Kd.R_reads' a5.out).2.2 | (with_reducible refine Kd.C_alloc ?_ _) | (with_reducible refine Kd.C_drewN ?_ _) | (with_reducible refine Kd.C_drew ?_))); (case s2 => (first | exact Nat.le_refl _ | exact (Kd.R_reads' a5.out).2.1)); (case s3 => repeat (first | exact (Kd.R_reads' a7.out).2.2 | (with_reducible refine Kd.C_alloc ?_ _) | (with_reducible refine Kd.C_drewN ?_ _) | (with_reducible refine Kd.C_drew ?_))); (case s4 => (first | exact Nat.le_refl _ | exact (Kd.R_reads' a7.out).2.1)); rintro e n7 ⟨n8, rfl, a0, hb⟩; refine ⟨_, rfl, ?_⟩; replace a1 := zr a1 hb; replace a2 := zr a2 hb; replace a3 := zr a3 hb; replace a4 := zr a4 hb; replace a6 := zr a6 hb; replace a5 := zr a5 hb; replace a7 := zr a7 hb; have a8 := zA (Kd.R_lower a0 (below_size (zB))); replace HB := zA (below_step (zB) hb); (try clear hb a0)) | ((with_reducible refine zq 28 ?_); refine zg (some 69) Tryd.func28 #[.string b5] ?_; (with_reducible refine (impl_PathOk.calls a9 b5 c8 _ ?s1 h7.out).mono ?_); (case s1 => exact GW.below HG.out (zB)); rintro e n9 ⟨rfl, hb⟩; refine ⟨_, rfl, ?_⟩; replace a1 := zr a1 hb; replace a2 := zr a2 hb; replace a3 := zr a3 hb; replace a4 := zr a4 hb; replace a6 := zr a6 hb; replace a5 := zr a5 hb; replace a7 := zr a7 hb; replace a8 := zr a8 hb; replace HB := zA (below_step (zB) hb); (try clear hb)) | ((with_reducible refine zq 29 ?_); refine zg (some 71) Tryd.func29 #[.string b5] ?_; (with_reducible refine (spec_PathOk.calls a9 b5 c9 _ h8.out).mono ?_); rintro e o0 ⟨rfl, hb⟩; refine ⟨_, rfl, ?_⟩; replace a1 := zr a1 hb; replace a2 := zr a2 hb; replace a3 := zr a3 hb; replace a4 := zr a4 hb; replace a6 := zr a6 hb; replace a5 := zr a5 hb; replace a7 := zr a7 hb; replace a8 := zr a8 hb; replace HB := zA (below_step (zB) hb); (try clear hb); obtain ⟨o1, o2, j6⟩ := Kd.R_slice a1.out; subst j6) | (go_at_call 30; (with_reducible refine (impl_FilesOk.calls a9 _ _ d7 d1 _ ?s1 ?s2 ?s3 h9.out).mono ?_); (case s1 => repeat (first | exact (Kd.R_reads' a1.out).2.2 | (with_reducible refine Kd.C_alloc ?_ _) | (with_reducible refine Kd.C_drewN ?_ _) | (with_reducible refine Kd.C_drew ?_))); (case s2 => (first | exact Nat.le_refl _ | exact (Kd.R_reads' a1.out).2.1)); (case s3 => exact GW.below HG.out (zB)); rintro e o3 ⟨rfl, hb⟩; replace a1 := zr a1 hb; replace a2 := zr a2 hb; replace a3 := zr a3 hb; replace a4 := zr a4 hb; replace a6 := zr a6 hb; replace a5 := zr a5 hb; replace a7 := zr a7 hb; replace a8 := zr a8 hb; replace HB := zA (below_step (zB) hb); (try clear hb)) | (go_at_call 31; (with_reducible refine (spec_FilesOk.calls a9 _ _ d7 d2 _ ?s1 ?s2 i0.out).mono ?_); (case s1 => repeat (first | exact (Kd.R_reads' a1.out).2.2 | (with_reducible refine Kd.C_alloc ?_ _) | (with_reducible refine Kd.C_drewN ?_ _) | (with_reducible refine Kd.C_drew ?_))); (case s2 => (first | exact Nat.le_refl _ | exact (Kd.R_reads' a1.out).2.1)); rintro e o4 ⟨rfl, hb⟩; replace a1 := zr a1 hb; replace a2 := zr a2 hb; replace a3 := zr a3 hb; replace a4 := zr a4 hb; replace a6 := zr a6 hb; replace a5 := zr a5 hb; replace a7 := zr a7 hb; replace a8 := zr a8 hb; replace HB := zA (below_step (zB) hb); (try clear hb); obtain ⟨o5, o6, j7⟩ := Kd.R_slice a4.out; subst j7; obtain ⟨o7, o8, j8⟩ := Kd.R_slice a6.out; subst j8) | (go_at_call 32; (with_reducible refine (laws_sameFiles.calls a9 _ _ e9 _ _ f1 true _ ?s1 ?s2 ?s3 ?s4 i1.out).mono ?_); (case s1 => repeat (first | exact (Kd.R_reads' a4.out).2.2 | (with_reducible refine Kd.C_alloc ?_ _) | (with_reducible refine Kd.C_drewN ?_ _) | (with_reducible refine Kd.C_drew ?_))); (case s2 => (first | exact Nat.le_refl _ | exact (Kd.R_reads' a4.out).2.1)); (case s3 => repeat (first | exact (Kd.R_reads' a6.out).2.2 | (with_reducible refine Kd.C_alloc ?_ _) | (with_reducible refine Kd.C_drewN ?_ _) | (with_reducible refine Kd.C_drew ?_))); (case s4 => (first | exact Nat.le_refl _ | exact (Kd.R_reads' a6.out).2.1)); rintro e w' ⟨rfl, ⟨nd, rfl⟩⟩) | (go_at_call 34; (with_reducible refine (spec_DiffFiles.calls a9 _ _ b3 _ _ c7 g0 _ ?s1 ?s2 ?s3 ?s4 i2.out).mono ?_); (case s1 => repeat (first | exact (Kd.R_reads' a5.out).2.2 | (with_reducible refine Kd.C_alloc ?_ _) | (with_reducible refine Kd.C_drewN ?_ _) | (with_reducible refine Kd.C_drew ?_))); (case s2 => (first | exact Nat.le_refl _ | exact (Kd.R_reads' a5.out).2.1)); (case s3 => repeat (first | exact (Kd.R_reads' a7.out).2.2 | (with_reducible refine Kd.C_alloc ?_ _) | (with_reducible refine Kd.C_drewN ?_ _) | (with_reducible refine Kd.C_drew ?_))); (case s4 => (first | exact Nat.le_refl _ | exact (Kd.R_reads' a7.out).2.1)); rintro e o9 ⟨p0, rfl, a0, hb⟩; replace a1 := zr a1 hb; replace a2 := zr a2 hb; replace a3 := zr a3 hb; replace a4 := zr a4 hb; replace a6 := zr a6 hb; replace a5 := zr a5 hb; replace a7 := zr a7 hb; have b4 := zA (Kd.R_lower (Kd.R_new' a0 (Kd.R_lt (zR a8.out))) (below_size (zB))); replace a8 := zA (Kd.R_elder' (zR a8.out) (Kd.R_base a0) hb); replace HB := zA (below_step (zB) hb); (try clear hb a0); obtain ⟨p1, p3, j9⟩ := Kd.R_slice a8.out; subst j9; (try simp only [impl_Sorted.clip]); obtain ⟨p4, p5, k0⟩ := Kd.R_slice b4.out; subst k0) | (go_at_call 33; (with_reducible refine (laws_sameTexts.calls a9 _ _ d8 _ _ g0 true _ ?s1 ?s2 ?s3 ?s4 i3.out).mono ?_); (case s1 => repeat (first | exact (Kd.R_reads' a8.out).2.2 | (with_reducible refine Kd.C_alloc ?_ _) | (with_reducible refine Kd.C_drewN ?_ _) | (with_reducible refine Kd.C_drew ?_))); (case s2 => (first | exact Nat.le_refl _ | exact (Kd.R_reads' a8.out).2.1)); (case s3 => repeat (first | exact (Kd.R_reads' b4.out).2.2 | (with_reducible refine Kd.C_alloc ?_ _) | (with_reducible refine Kd.C_drewN ?_ _) | (with_reducible refine Kd.C_drew ?_))); (case s4 => (first | exact Nat.le_refl _ | exact (Kd.R_reads' b4.out).2.1)); rintro e w' ⟨rfl, ⟨nd, rfl⟩⟩) | (go_at_call 35; (with_reducible refine (laws_ascending.calls a9 _ _ d8 true _ ?s1 ?s2 i4.out).mono ?_); (case s1 => repeat (first | exact (Kd.R_reads' a8.out).2.2 | (with_reducible refine Kd.C_alloc ?_ _) | (with_reducible refine Kd.C_drewN ?_ _) | (with_reducible refine Kd.C_drew ?_))); (case s2 => (first | exact Nat.le_refl _ | exact (Kd.R_reads' a8.out).2.1)); rintro e w' ⟨rfl, ⟨nd, rfl⟩⟩) | (go_at_call 27; (with_reducible refine (impl_DiffFiles.calls a9 _ _ b3 _ _ b3 i5 _ ?s1 ?s2 ?s3 ?s4 i6.out).mono ?_); (case s1 => repeat (first | exact (Kd.R_reads' a5.out).2.2 | (with_reducible refine Kd.C_alloc ?_ _) | (with_reducible refine Kd.C_drewN ?_ _) | (with_reducible refine Kd.C_drew ?_))); (case s2 => (first | exact Nat.le_refl _ | exact (Kd.R_reads' a5.out).2.1)); (case s3 => repeat (first | exact (Kd.R_reads' a5.out).2.2 | (with_reducible refine Kd.C_alloc ?_ _) | (with_reducible refine Kd.C_drewN ?_ _) | (with_reducible refine Kd.C_drew ?_))); (case s4 => (first | exact Nat.le_refl _ | exact (Kd.R_reads' a5.out).2.1)); rintro e p6 ⟨p7, rfl, a0, hb⟩; replace a1 := zr a1 hb; replace a2 := zr a2 hb; replace a3 := zr a3 hb; replace a4 := zr a4 hb; replace a6 := zr a6 hb; replace a5 := zr a5 hb; replace a7 := zr a7 hb; have k1 := zA (Kd.R_lower (Kd.R_new' (Kd.R_new' a0 (Kd.R_lt (zR a8.out))) (Kd.R_lt (zR b4.out))) (below_size (zB))); replace a8 := zA (Kd.R_elder' (zR a8.out) (Kd.R_base a0) hb); replace b4 := zA (Kd.R_elder' (zR b4.out) (Kd.R_base a0) hb); replace HB := zA (below_step (zB) hb); (try clear hb a0); obtain ⟨p8, p9, k2⟩ := Kd.R_slice k1.out; subst k2; (try simp only [impl_Sorted.clip])))
      go_ret
      exact ⟨zE, zB⟩
     exact absurd H (by simp)
    exact absurd H (by simp)
   exact absurd H (by simp)
end Go.Proofs.YtbaeljcnbkeipaaDoor.PGA
