/- The walks of the functions that these laws reach, and what each comes to: printed by this session's program. -/
import Derived.Test.YtpcdhoeoefoeoaaGreatDoorZGAPGAx0
import Derived.Test.YtpcdhoeoefoeoaaGreatDoorZGAPGAx18
import Derived.Test.YtpcdhoeoefoeoaaGreatDoorZGASays
import Derived.Test.YtpcdhoeoefoeoaaGreatDoorZGARegs
namespace Go.Proofs.YtpcdhoeoefoeoaaGreatDoor.PGA
open Go.RowKit YtpcdhoeoefoeoaaGreatDoorW.PrintWords YtpcdhoeoefoeoaaGreatDoorW.PrintLast YtpcdhoeoefoeoaaGreatDoorW.PrintMore
attribute [local go_sem high] Mine.str_gtr Mine.str_leq Mine.str_geq
attribute [local go_sem] max2_int min2_int max_two min_two max_three min_three max_four min_four   -- for this text's walks alone
set_option linter.unusedVariables false
set_option maxHeartbeats 8000000
set_option maxRecDepth 100000
set_option linter.unusedSimpArgs false
/-! ### slices_CompareFunc_string_string_string_string: function 139 -/
mutual
def slices_CompareFunc_string_string_string_string.l0 : Nat → List ByteArray → List ByteArray → List ByteArray → Int → Int → Option (Int)
 | 0, _, _, _, _, _ => none
 | k + 1, x0, x1, x11, x12, x13 => if x13 < x12 then (slices_CompareFunc_string_string_string_string.j1 k x0 x1 x11 x12 x13) else (if (x0.length : Int) < (x1.length : Int) then (some (-1)) else (some 0))
def slices_CompareFunc_string_string_string_string.j1 : Nat → List ByteArray → List ByteArray → List ByteArray → Int → Int → Option (Int)
 | 0, _, _, _, _, _ => none
 | k + 1, x0, x1, x11, x12, x13 => if 0 ≤ x13 then (if x13 < (x11.length : Int) then (if x13 ≥ (x1.length : Int) then (some 1) else (if x13 < (x1.length : Int) then ((impl_compareWords.f k (rdOf ByteArray.empty x11 x13) (rdOf ByteArray.empty x1 x13)).bind fun t640 => (if t640 = 0 then (slices_CompareFunc_string_string_string_string.l0 k x0 x1 x11 x12 (wrap64 (x13 + 1))) else (some t640))) else (none))) else (none)) else (none)
end
def slices_CompareFunc_string_string_string_string.f (k : Nat) (l0 l1 : List ByteArray) : Option (Int) := slices_CompareFunc_string_string_string_string.l0 k l0 l1 l0 (l0.length : Int) 0
theorem slices_CompareFunc_string_string_string_string.calls (k : Nat) (A0 : Option Addr) (c0 : Nat) (l0 : List ByteArray) (A1 : Option Addr) (c1 : Nat) (l1 : List ByteArray) (r : Int) (w : World) (hr0 : Kd.C Kd.string w A0 l0.length l0) (hc0 : l0.length ≤ c0) (hr1 : Kd.C Kd.string w A1 l1.length l1) (hc1 : l1.length ≤ c1) (h : slices_CompareFunc_string_string_string_string.f k l0 l1 = some r) :
  Calls Tryz.prog 139 #[.slice A0 l0.length c0, .slice A1 l1.length c1, .func (.func 140) #[] #[]] w fun e w' => e = .returned (.int .i64 r) ∧ Below w.heap.size w w' := by
 have HR0 := Aside0.mk hr0
 have HC0 := Aside0.mk hc0
 clear hr0 hc0
 have HR1 := Aside0.mk hr1
 have HC1 := Aside0.mk hc1
 clear hr1 hc1
 have HB := zA (Below.refl w.heap.size w)
 unfold slices_CompareFunc_string_string_string_string.f at h
 have H := h
 clear h
 have H' := Aside0.mk H
 clear H
 go_enter Tryz.func139, Tryz.ntmps139
 go_wp2
 go_loopg [13] k (fun kq v13 w' => ∃ (x13_1 : Int), v13 = .int .i64 x13_1 ∧ Aside0 (slices_CompareFunc_string_string_string_string.l0 kq l0 l1 l0 (l0.length : Int) x13_1 = some r) ∧ Aside0 (kq ≤ k) ∧ Aside0 (Below w.heap.size w w'))
 case atStart => exact ⟨(0), zS, H', ⟨Nat.le_refl _⟩, ⟨zB⟩⟩
 case round =>
  clear H'
  try clear c1
  try clear p2
  obtain ⟨x13_1, rfl, HA, HK1, HB⟩ := hrel
  cases gk with
  | zero => exact absurd HA.out (by simp [slices_CompareFunc_string_string_string_string.l0])
  | succ k1 =>
   have H := HA.out
   clear HA
   simp only [slices_CompareFunc_string_string_string_string.l0] at H
   have HC3 := Aside0.mk H
   clear H
   go_upto_if 14 with (fail)
   go_cut [] (fun wc => ∃ (kq : Nat), Aside0 (slices_CompareFunc_string_string_string_string.j1 kq l0 l1 l0 (l0.length : Int) x13_1 = some r) ∧ Aside0 (kq ≤ k1) ∧ Aside0 (Below w.heap.size w wc))
   case first =>
    have H := HC3.out
    clear HC3
    replace H := zI0 H
    rcases H with ⟨c4b0, H⟩ | ⟨c4b0, H⟩
    ·(first | rw [c4b0] | (simp only [i64_w, i32_w]; rw [c4b0]) | skip)
     have H' := Aside0.mk H
     clear H
     go_wp2
     go_meet
     case rel => exact ⟨_, (by first | exact H' | (subst_vars; exact H')), ⟨by have := HK1.out; first | omega | exact Nat.le_refl _⟩, ⟨zB⟩⟩
    ·(first | rw [c4b0] | (simp only [i64_w, i32_w]; rw [c4b0]) | skip)
     replace H := zI1 H
     rcases H with ⟨c5, H⟩ | ⟨c5, H⟩
     ·have c5b0 := decide_eq_true c5
      have c5b1 : decide (l0.length < l1.length) = true := decide_eq_true (Int.ofNat_lt.mp c5)
      clear c5
      obtain rfl := Option.some.inj H
      go_wp2
      go_ret
      exact ⟨zE, zB⟩
     ·have c5b0 := decide_eq_false c5
      have c5b1 : decide (l0.length < l1.length) = false := decide_eq_false (fun h => c5 (Int.ofNat_lt.mpr h))
      clear c5
      obtain rfl := Option.some.inj H
      go_wp2
      go_ret
      exact ⟨zE, zB⟩
   case rest =>
    clear HC3
    try clear c1
    try clear p2
    try clear c4
    try clear c4b0
    try clear c5
    try clear c5b0
    try clear c5b1
    try clear p2
    obtain ⟨kq, HA, HJ2, HB⟩ := hcut
    cases kq with
    | zero => exact absurd HA.out (by simp [slices_CompareFunc_string_string_string_string.j1])
    | succ kj2 =>
     have H := HA.out
     clear HA
     simp only [slices_CompareFunc_string_string_string_string.j1] at H
     replace H := zD0 H
     obtain ⟨c6b0, H⟩ := H
     replace H := zD0 H
     obtain ⟨c7b0, H⟩ := H
     replace H := zI1 H
     rcases H with ⟨c8, H⟩ | ⟨c8, H⟩
     ·have c8b0 : decide ((l1.length : Int) ≤ x13_1) = true := decide_eq_true c8
      clear c8
      obtain rfl := Option.some.inj H
      have p638 : 0 ≤ (x13_1 : Int) := zD
      have q638 : x13_1 < (l0.length : Int) := zD
      obtain ⟨ad638, e638, hx638_0⟩ := Kd.at_string HR0.out x13_1 p638 q638
      cases e638
      replace hx638_0 := zx HB hx638_0
      replace p638 := eq_true p638
      replace q638 := eq_true q638
      go_wp2
      go_ret
      exact ⟨zE, zB⟩
     ·have c8b0 : decide ((l1.length : Int) ≤ x13_1) = false := decide_eq_false c8
      clear c8
      replace H := zD0 H
      obtain ⟨c9b0, H⟩ := H
      replace H := zj H
      obtain ⟨t640, A10, H⟩ := H
      try dsimp only at H
      replace H := zI1 H
      rcases H with ⟨c11, H⟩ | ⟨c11, H⟩
      ·have c11b0 := beq_iff_eq.mpr c11
       have c11b1 := bne_eq_false_iff_eq.mpr c11
       clear c11
       have H' := Aside0.mk H
       clear H
       have p638 : 0 ≤ (x13_1 : Int) := zD
       have q638 : x13_1 < (l0.length : Int) := zD
       obtain ⟨ad638, e638, hx638_0⟩ := Kd.at_string HR0.out x13_1 p638 q638
       cases e638
       replace hx638_0 := zx HB hx638_0
       replace p638 := eq_true p638
       replace q638 := eq_true q638
       have p639 : 0 ≤ (x13_1 : Int) := zD
       have q639 : x13_1 < (l1.length : Int) := zD
       obtain ⟨ad639, e639, hx639_0⟩ := Kd.at_string HR1.out x13_1 p639 q639
       cases e639
       replace hx639_0 := zx HB hx639_0
       replace p639 := eq_true p639
       replace q639 := eq_true q639
       go_wp2_with (first | (go_at_call 140; (with_reducible refine (impl_compareWords.calls kj2 (rdOf ByteArray.empty l0 x13_1) (rdOf ByteArray.empty l1 x13_1) t640 _ A10.out).mono ?_); rintro e w12 ⟨rfl, hb⟩; replace HB := zA (below_step (zB) hb); (try clear hb)))
       go_roundg kj2
       case measure => have := HK1.out; have := HJ2.out; omega
       case rel => exact ⟨(wrap64 (x13_1 + 1)), zS, H', ⟨by have := HK1.out; have := HJ2.out; omega⟩, ⟨zB⟩⟩
      ·have c11b0 := beq_eq_false_iff_ne.mpr c11
       have c11b1 := bne_iff_ne.mpr c11
       obtain rfl := Option.some.inj H
       have p638 : 0 ≤ (x13_1 : Int) := zD
       have q638 : x13_1 < (l0.length : Int) := zD
       obtain ⟨ad638, e638, hx638_0⟩ := Kd.at_string HR0.out x13_1 p638 q638
       cases e638
       replace hx638_0 := zx HB hx638_0
       replace p638 := eq_true p638
       replace q638 := eq_true q638
       have p639 : 0 ≤ (x13_1 : Int) := zD
       have q639 : x13_1 < (l1.length : Int) := zD
       obtain ⟨ad639, e639, hx639_0⟩ := Kd.at_string HR1.out x13_1 p639 q639
       cases e639
       replace hx639_0 := zx HB hx639_0
       replace p639 := eq_true p639
       replace q639 := eq_true q639
       go_wp2_with (first | (go_at_call 140; (with_reducible refine (impl_compareWords.calls kj2 (rdOf ByteArray.empty l0 x13_1) (rdOf ByteArray.empty l1 x13_1) t640 _ A10.out).mono ?_); rintro e w13 ⟨rfl, hb⟩; replace HB := zA (below_step (zB) hb); (try clear hb)))
       go_ret
       exact ⟨zE, zB⟩
/-! ### impl_compareVer: function 98 -/
def impl_compareVer.j0 : Nat → Int → Int → Int → List ByteArray → Int → Int → Int → List ByteArray → Option (Int)
 | 0, _, _, _, _, _, _, _, _ => none
 | k + 1, x642000, x642001, x642002, x642003, x643000, x643001, x643002, x643003 => if (((x642003.length : Int) == 0) != ((x643003.length : Int) == 0)) = true then (if (x642003.length : Int) > 0 then (some (-1)) else (some 1)) else ((slices_CompareFunc_string_string_string_string.f k x642003 x643003).bind fun t650 => (some t650))
def impl_compareVer.f (k : Nat) (a0_0 a0_1 a0_2 : Int) (l0_3 : List ByteArray) (a1_0 a1_1 a1_2 : Int) (l1_3 : List ByteArray) : Option (Int) := (cmp_Compare_int.f k a0_0 a1_0).bind fun t643 => ((cmp_Compare_int.f k a0_1 a1_1).bind fun t644 => ((cmp_Compare_int.f k a0_2 a1_2).bind fun t645 => ((cmp_Or_int.f k (([t643, t644, t645] : List Int))).bind fun t649 => (if t649 = 0 then (impl_compareVer.j0 k a0_0 a0_1 a0_2 l0_3 a1_0 a1_1 a1_2 l1_3) else (some t649)))))
def impl_compareVer.T1 : Bool × List (List Nat × List Nat) := (true, [([], []), ([0], [0]), ([], []), ([2], [2]), ([1, 3], [1, 3]), ([], []), ([5], [5]), ([], []), ([7], [7]), ([6, 8, 4], [6, 8]), ([], []), ([10], [10]), ([], []), ([12], [12]), ([11, 13, 9], [11, 13]), ([4, 9, 14], [4, 9, 14]), ([15, 14], [15]), ([16, 16, 0, 1, 2, 3, 4, 5, 6, 7, 8, 9, 10, 11, 12, 13, 14, 15, 16], [16])])
def impl_compareVer.B1 : List Nat := [0, 1, 0, 4, 15, 0, 32, 0, 128, 511, 0, 1024, 0, 4096, 16383, 32767, 65535, 131071]
theorem impl_compareVer.tab1 : rtab .any (opsOf Tryz.f98 1) = impl_compareVer.T1 := by kernel_rfl
theorem impl_compareVer.bits1 : waitsOk impl_compareVer.T1.2 impl_compareVer.B1 = true := by kernel_rfl
theorem impl_compareVer.calls (k : Nat) (a0_0 a0_1 a0_2 : Int) (A0_3 : Option Addr) (c0_3 : Nat) (l0_3 : List ByteArray) (a1_0 a1_1 a1_2 : Int) (A1_3 : Option Addr) (c1_3 : Nat) (l1_3 : List ByteArray) (r : Int) (w : World) (hr0_3 : Kd.C Kd.string w A0_3 l0_3.length l0_3) (hc0_3 : l0_3.length ≤ c0_3) (hr1_3 : Kd.C Kd.string w A1_3 l1_3.length l1_3) (hc1_3 : l1_3.length ≤ c1_3) (h : impl_compareVer.f k a0_0 a0_1 a0_2 l0_3 a1_0 a1_1 a1_2 l1_3 = some r) :
  Calls Tryz.prog 98 #[.agg #[.int .i64 a0_0, .int .i64 a0_1, .int .i64 a0_2, .slice A0_3 l0_3.length c0_3], .agg #[.int .i64 a1_0, .int .i64 a1_1, .int .i64 a1_2, .slice A1_3 l1_3.length c1_3]] w fun e w' => e = .returned (.int .i64 r) ∧ Below w.heap.size w w' := by
 have hu32 := Tryz.underlying32
 have HR0_3 := Aside0.mk hr0_3
 have HC0_3 := Aside0.mk hc0_3
 clear hr0_3 hc0_3
 have HR1_3 := Aside0.mk hr1_3
 have HC1_3 := Aside0.mk hc1_3
 clear hr1_3 hc1_3
 have HB := zA (Below.refl w.heap.size w)
 unfold impl_compareVer.f at h
 have H := h
 clear h
 replace H := zj H
 obtain ⟨t643, A3, H⟩ := H
 try dsimp only at H
 replace H := zj H
 obtain ⟨t644, A4, H⟩ := H
 try dsimp only at H
 replace H := zj H
 obtain ⟨t645, A5, H⟩ := H
 try dsimp only at H
 obtain ⟨y646, hy646⟩ : ∃ y_ : List Int, y_ = (([t643, t644, t645] : List Int)) := ⟨_, rfl⟩
 replace H : ((cmp_Or_int.f k y646).bind fun t649 => (if t649 = 0 then (impl_compareVer.j0 k a0_0 a0_1 a0_2 l0_3 a1_0 a1_1 a1_2 l1_3) else (some t649))) = some r := zY hy646 H
 have Ny646 := Aside0.mk hy646
 clear hy646
 replace H := zj H
 obtain ⟨t649, A6, H⟩ := H
 try dsimp only at H
 have HC7 := Aside0.mk H
 clear H
 go_enter Tryz.func98, Tryz.ntmps98
 try go_wp2_with (first | ((with_reducible refine zd 2 ?_); refine ze 2 32 #[.int .i64 a0_0, .int .i64 a0_1, .int .i64 a0_2, .slice A0_3 l0_3.length c0_3] ?_; intro gb641 hg w8 hbox hb; have BK641 := zA (hbox); have GW641 := zi HB hg; have GE641 := zi HB hg; replace HB := zA (below_step (zB) hb); clear hb hbox hg) | ((with_reducible refine zd 3 ?_); refine ze 3 32 #[.int .i64 a1_0, .int .i64 a1_1, .int .i64 a1_2, .slice A1_3 l1_3.length c1_3] ?_; intro gb642 hg w9 hbox hb; have BK642 := zA (hbox); have GW642 := zi HB hg; have GE642 := zi HB hg; replace HB := zh HB hb; have NB641_642 := zA (zL hg (zK BK641.out)); have NB642_641 := zA (zJ hg (zK BK641.out)); replace BK641 := zb BK641 hb; clear hb hbox hg))
 replace BK641 := zA (blk_drew BK641.out)
 replace BK642 := zA (blk_drew BK642.out)
 replace HB := zA (below_drew1 HB.out)
 refine start_ (n := 18) (S := fun w' => w'.cell? ⟨gb641, 0, none⟩ = some (.int .i64 a0_0) ∧ w'.cell? ⟨gb641, 1, none⟩ = some (.int .i64 a0_1) ∧ w'.cell? ⟨gb641, 2, none⟩ = some (.int .i64 a0_2) ∧ w'.cell? ⟨gb641, 3, none⟩ = some (.slice A0_3 l0_3.length c0_3) ∧ w'.cell? ⟨gb642, 0, none⟩ = some (.int .i64 a1_0) ∧ w'.cell? ⟨gb642, 1, none⟩ = some (.int .i64 a1_1) ∧ w'.cell? ⟨gb642, 2, none⟩ = some (.int .i64 a1_2) ∧ w'.cell? ⟨gb642, 3, none⟩ = some (.slice A1_3 l1_3.length c1_3)) (ds := []) (Array.replicate 18 false) (by kernel_rfl) rfl rfl zO fun hHeld => ?_; refine with_tabW impl_compareVer.tab1 impl_compareVer.bits1 (fun HT_ HW_ => ?_)
 generalize w9.drew = w10 at BK641 BK642 HB hHeld ⊢
 refine zp 0 6 ?_
 refine zp 2 8 ?_
 refine zp 5 11 ?_
 refine zp 7 13 ?_
 refine zp 10 16 ?_
 refine zp 12 18 ?_
 refine zt 1 7 ?_
 refine zt 3 9 ?_
 refine zt 6 12 ?_
 refine zt 8 14 ?_
 refine zt 11 17 ?_
 refine zt 13 19 ?_
 refine zo 4 (some 10) fun K hK => ?_
 refine goes_ Tryz.func138 (by kernel_rfl) rfl #[.int .i64 a0_0, .int .i64 a1_0] (by rfl) rfl rfl zM ?_
 with_reducible refine (cmp_Compare_int.calls k a0_0 a1_0 t643 _ A3.out).mono ?_
 rintro e w' ⟨rfl, ⟨nd, rfl⟩⟩
 refine ⟨_, rfl, ?_⟩
 refine hK.out _ _ zO fun hHeld => ?_
 clear hK K
 refine zn ?_
 refine zo 9 (some 15) fun K hK => ?_
 refine goes_ Tryz.func138 (by kernel_rfl) rfl #[.int .i64 a0_1, .int .i64 a1_1] (by rfl) rfl rfl zM ?_
 with_reducible refine (cmp_Compare_int.calls k a0_1 a1_1 t644 _ A4.out).mono ?_
 rintro e w' ⟨rfl, ⟨nd, rfl⟩⟩
 refine ⟨_, rfl, ?_⟩
 refine hK.out _ _ zO fun hHeld => ?_
 clear hK K
 refine zn ?_
 refine zo 14 (some 20) fun K hK => ?_
 refine goes_ Tryz.func138 (by kernel_rfl) rfl #[.int .i64 a0_2, .int .i64 a1_2] (by rfl) rfl rfl zM ?_
 with_reducible refine (cmp_Compare_int.calls k a0_2 a1_2 t645 _ A5.out).mono ?_
 rintro e w' ⟨rfl, ⟨nd, rfl⟩⟩
 refine ⟨_, rfl, ?_⟩
 refine hK.out _ _ zO fun hHeld => ?_
 clear hK K
 refine zn ?_
 refine zo 15 (some 21) fun K hK => ?_
 refine Kd.R_lit_step (Kd.int .i64) _ 3 ?hg (N := 21) ?hd (xs := ([t643, t644, t645] : List Int)) (inner := [.int .i64 t643, .int .i64 t644, .int .i64 t645]) (ok := fun _ => True) ?hr ?hp (fun _ hk => hk) trivial (Below.refl _ _) (Nat.le_refl _) (by simp) ?_; (case hd => rfl); (case hg => rfl); (case hr => first | (go_simp; done) | (go_simp; rfl)); (case hp => exact (Reps.one (show Kd.M (Kd.int .i64) _ _ _ t643 [.int .i64 t643] from rfl) (Reps.one (show Kd.M (Kd.int .i64) _ _ _ t644 [.int .i64 t644] from rfl) (Reps.one (show Kd.M (Kd.int .i64) _ _ _ t645 [.int .i64 t645] from rfl) (Reps.none _ _)))))
 intro v647 w11 ho12 hb hg_ hnew_
 clear hg_ hnew_
 (first | rw [← Ny646.out] at ho12 | (simp only [Int.reduceToNat] at ho12; rw [← Ny646.out] at ho12))
 have HO648 := zA (Kd.R_lower ho12 (below_size (zW HB.out)))
 replace BK641 := zb BK641 hb
 replace BK642 := zb BK642 hb
 replace HB := zh HB hb
 clear hb ho12
 obtain ⟨Ao13, co13, eo13⟩ := Kd.R_slice HO648.out
 (first | subst eo13 | (injection eo13 with f1_ f2_ f3_; have f4_ := f1_.symm; have f5_ := f3_.symm; clear f1_ f2_ f3_; subst f4_; subst f5_))
 refine hK.out _ _ zO fun hHeld => ?_
 clear hK K
 refine zn ?_
 refine zo 16 (some 22) fun K hK => ?_
 refine goes_ Tryz.func137 (by kernel_rfl) rfl #[.slice Ao13 y646.length co13] (by rfl) rfl rfl zM ?_
 with_reducible refine (cmp_Or_int.calls k _ _ y646 t649 _ ?side1 ?side2 A6.out).mono ?_
 (case side1 => repeat (first | exact (Kd.R_reads' HO648.out).2.2 | (with_reducible refine Kd.C_alloc ?_ _) | (with_reducible refine Kd.C_drewN ?_ _) | (with_reducible refine Kd.C_drew ?_)))
 (case side2 => exact (Kd.R_reads' HO648.out).2.1)
 rintro e w' ⟨rfl, ⟨nd, rfl⟩⟩
 refine ⟨_, rfl, ?_⟩
 refine hK.out _ _ zO fun hHeld => ?_
 clear hK K
 refine zn ?_
 refine zp 17 5 ?_
 refine done_ (done_of HT_.out (by kernel_rfl)) ?_
 go_upto_if 24 with (fail)
 go_cut [] (fun wc => ∃ (kq : Nat), Aside0 (impl_compareVer.j0 kq a0_0 a0_1 a0_2 l0_3 a1_0 a1_1 a1_2 l1_3 = some r) ∧ Aside0 (kq ≤ k) ∧ Aside0 (wc.heap[gb641]? = some (.cells #[.int .i64 a0_0, .int .i64 a0_1, .int .i64 a0_2, (.slice A0_3 l0_3.length c0_3)] 32 (0, 0))) ∧ Aside0 (wc.heap[gb642]? = some (.cells #[.int .i64 a1_0, .int .i64 a1_1, .int .i64 a1_2, (.slice A1_3 l1_3.length c1_3)] 32 (0, 0))) ∧ Aside0 (Below w.heap.size w wc))
 case first =>
  have H := HC7.out
  clear HC7
  replace H := zI1 H
  rcases H with ⟨c14, H⟩ | ⟨c14, H⟩
  ·have c14b0 := beq_iff_eq.mpr c14
   have c14b1 := bne_eq_false_iff_eq.mpr c14
   clear c14
   (first | rw [c14b0] | (simp only [i64_w, i32_w]; rw [c14b0]) | skip)
   have H' := Aside0.mk H
   clear H
   go_wp2
   go_meet
   case rel => exact ⟨_, (by first | exact H' | (subst_vars; exact H')), ⟨by first | omega | exact Nat.le_refl _⟩, ⟨zK BK641.out⟩, ⟨zK BK642.out⟩, ⟨zW HB.out⟩⟩
  ·have c14b0 := beq_eq_false_iff_ne.mpr c14
   have c14b1 := bne_iff_ne.mpr c14
   (first | rw [c14b0] | (simp only [i64_w, i32_w]; rw [c14b0]) | skip)
   obtain rfl := Option.some.inj H
   go_wp2
   go_ret
   exact ⟨zE, zW HB.out⟩
 case rest =>
  clear HC7
  try clear c1
  try clear p2
  try clear c9
  try clear c13
  try clear c14
  try clear c14b0
  try clear c14b1
  obtain ⟨kq, HA, HJ6, BK641, BK642, HB⟩ := hcut
  cases kq with
  | zero => exact absurd HA.out (by simp [impl_compareVer.j0])
  | succ kj6 =>
   have H := HA.out
   clear HA
   simp only [impl_compareVer.j0] at H
   replace H := zI1 H
   rcases H with ⟨c15, H⟩ | ⟨c15, H⟩
   ·have c15b0 : (((l0_3.length : Int) == 0) != ((l1_3.length : Int) == 0)) = true := c15
    (try (have c15b1 : decide (((l0_3.length : Int) == 0) = ((l1_3.length : Int) == 0)) = false := by simpa using c15))
    (try (have c15b2 : (((l0_3.length : Int) == 0) == ((l1_3.length : Int) == 0)) = false := by simpa using c15))
    (try (have c15b3 : ¬ (((l0_3.length : Int) == 0) = ((l1_3.length : Int) == 0)) := by simpa using c15))
    clear c15
    replace H := zI1 H
    rcases H with ⟨c16, H⟩ | ⟨c16, H⟩
    ·have c16b0 : decide (0 < (l0_3.length : Int)) = true := decide_eq_true c16
     have c16b1 : decide (0 < l0_3.length) = true := decide_eq_true (by omega)
     clear c16
     obtain rfl := Option.some.inj H
     have hnb17 := NB641_642.out
     have hnc17 := NB642_641.out
     obtain ⟨hcz18_0, hcz18_1, hcz18_2, hcz18_3, hfz18_0, hfz18_1, hfz18_2, hfz18_3⟩ := ze4 BK641.out
     obtain ⟨hcz19_0, hcz19_1, hcz19_2, hcz19_3, hfz19_0, hfz19_1, hfz19_2, hfz19_3⟩ := ze4 BK642.out
     go_wp2
     go_ret
     exact ⟨zE, zW HB.out⟩
    ·have c16b0 : decide (0 < (l0_3.length : Int)) = false := decide_eq_false c16
     have c16b1 : decide (0 < l0_3.length) = false := decide_eq_false (by omega)
     clear c16
     obtain rfl := Option.some.inj H
     have hnb20 := NB641_642.out
     have hnc20 := NB642_641.out
     obtain ⟨hcz21_0, hcz21_1, hcz21_2, hcz21_3, hfz21_0, hfz21_1, hfz21_2, hfz21_3⟩ := ze4 BK641.out
     obtain ⟨hcz22_0, hcz22_1, hcz22_2, hcz22_3, hfz22_0, hfz22_1, hfz22_2, hfz22_3⟩ := ze4 BK642.out
     go_wp2
     go_ret
     exact ⟨zE, zW HB.out⟩
   ·have c15b0 : (((l0_3.length : Int) == 0) != ((l1_3.length : Int) == 0)) = false := by simpa using c15
    (try (have c15b1 : decide (((l0_3.length : Int) == 0) = ((l1_3.length : Int) == 0)) = true := by simpa using c15))
    (try (have c15b2 : (((l0_3.length : Int) == 0) == ((l1_3.length : Int) == 0)) = true := by simpa using c15))
    clear c15
    replace H := zj H
    obtain ⟨t650, A23, H⟩ := H
    try dsimp only at H
    obtain rfl := Option.some.inj H
    have hnb24 := NB641_642.out
    have hnc24 := NB642_641.out
    obtain ⟨hcz25_0, hcz25_1, hcz25_2, hcz25_3, hfz25_0, hfz25_1, hfz25_2, hfz25_3⟩ := ze4 BK641.out
    obtain ⟨hcz26_0, hcz26_1, hcz26_2, hcz26_3, hfz26_0, hfz26_1, hfz26_2, hfz26_3⟩ := ze4 BK642.out
    go_wp2_with (first | ((with_reducible refine zq 139 ?_); refine zg (some 43) Tryz.func139 #[.slice A0_3 l0_3.length c0_3, .slice A1_3 l1_3.length c1_3, .func (.func 140) #[] #[]] ?_; (with_reducible refine (slices_CompareFunc_string_string_string_string.calls kj6 _ _ l0_3 _ _ l1_3 t650 _ ?side1 ?side2 ?side3 ?side4 A23.out).mono ?_); (case side1 => exact zC (Kd.C_below HR0_3.out HB.out)); (case side2 => exact HC0_3.out); (case side3 => exact zC (Kd.C_below HR1_3.out HB.out)); (case side4 => exact HC1_3.out); rintro e w27 ⟨rfl, hb⟩; refine ⟨_, rfl, ?_⟩; replace BK641 := zb BK641 hb; replace BK642 := zb BK642 hb; replace HB := zh HB hb; (try clear hb)))
    go_ret
    exact ⟨zE, zW HB.out⟩
/-! ### impl_CmpOk: function 44 -/
def impl_CmpOk.f (k : Nat) (a0_0 a0_1 a0_2 a0_3 : Int) (l0_4 : List ByteArray) (a1_0 a1_1 a1_2 : Int) (l1_3 : List ByteArray) : Option (Bool) := (impl_compareVer.f k a1_0 a1_1 a1_2 l1_3 a0_1 a0_2 a0_3 l0_4).bind fun t653 => (if a0_0 = 0 then (some (t653 == 0)) else (if a0_0 = 1 then (some (decide (t653 < 0))) else (if a0_0 = 2 then (some (decide (t653 ≤ 0))) else (if a0_0 = 3 then (some (decide (t653 > 0))) else (if a0_0 = 4 then (some (decide (t653 ≥ 0))) else (some false))))))
theorem impl_CmpOk.calls (k : Nat) (a0_0 a0_1 a0_2 a0_3 : Int) (A0_4 : Option Addr) (c0_4 : Nat) (l0_4 : List ByteArray) (a1_0 a1_1 a1_2 : Int) (A1_3 : Option Addr) (c1_3 : Nat) (l1_3 : List ByteArray) (r : Bool) (w : World) (hr0_4 : Kd.C Kd.string w A0_4 l0_4.length l0_4) (hc0_4 : l0_4.length ≤ c0_4) (hr1_3 : Kd.C Kd.string w A1_3 l1_3.length l1_3) (hc1_3 : l1_3.length ≤ c1_3) (h : impl_CmpOk.f k a0_0 a0_1 a0_2 a0_3 l0_4 a1_0 a1_1 a1_2 l1_3 = some r) :
  Calls Tryz.prog 44 #[.agg #[.int .i64 a0_0, .int .i64 a0_1, .int .i64 a0_2, .int .i64 a0_3, .slice A0_4 l0_4.length c0_4], .agg #[.int .i64 a1_0, .int .i64 a1_1, .int .i64 a1_2, .slice A1_3 l1_3.length c1_3]] w fun e w' => e = .returned (.bool r) ∧ Below w.heap.size w w' := by
 have hu75 := Tryz.underlying75
 have hu32 := Tryz.underlying32
 have HR0_4 := Aside0.mk hr0_4
 have HC0_4 := Aside0.mk hc0_4
 clear hr0_4 hc0_4
 have HR1_3 := Aside0.mk hr1_3
 have HC1_3 := Aside0.mk hc1_3
 clear hr1_3 hc1_3
 have HB := zA (Below.refl w.heap.size w)
 unfold impl_CmpOk.f at h
 have H := h
 clear h
 replace H := zj H
 obtain ⟨t653, A3, H⟩ := H
 try dsimp only at H
 go_enter Tryz.func44, Tryz.ntmps44
 go_upto_if 12 with (first | ((with_reducible refine zd 2 ?_); refine ze 2 75 #[.int .i64 a0_0, .int .i64 a0_1, .int .i64 a0_2, .int .i64 a0_3, .slice A0_4 l0_4.length c0_4] ?_; intro gb651 hg w5 hbox hb; have BK651 := zA (hbox); have GW651 := zi HB hg; have GE651 := zi HB hg; replace HB := zA (below_step (zB) hb); clear hb hbox hg) | ((with_reducible refine zd 3 ?_); refine ze 3 32 #[.int .i64 a1_0, .int .i64 a1_1, .int .i64 a1_2, .slice A1_3 l1_3.length c1_3] ?_; intro gb652 hg w6 hbox hb; have BK652 := zA (hbox); have GW652 := zi HB hg; have GE652 := zi HB hg; replace HB := zh HB hb; have NB651_652 := zA (zL hg (zK BK651.out)); have NB652_651 := zA (zJ hg (zK BK651.out)); replace BK651 := zb BK651 hb; clear hb hbox hg; have hnb7 := NB652_651.out; have hnc7 := NB651_652.out; obtain ⟨hcz8_0, hcz8_1, hcz8_2, hcz8_3, hfz8_0, hfz8_1, hfz8_2, hfz8_3⟩ := ze4 BK652.out; obtain ⟨hcz9_0, hcz9_1, hcz9_2, hcz9_3, hcz9_4, hfz9_0, hfz9_1, hfz9_2, hfz9_3, hfz9_4⟩ := ze5 BK651.out) | ((with_reducible refine zq 98 ?_); refine zg (some 9) Tryz.func98 #[.agg #[.int .i64 a1_0, .int .i64 a1_1, .int .i64 a1_2, .slice A1_3 l1_3.length c1_3], .agg #[.int .i64 a0_1, .int .i64 a0_2, .int .i64 a0_3, .slice A0_4 l0_4.length c0_4]] ?_; (with_reducible refine (impl_compareVer.calls k a1_0 a1_1 a1_2 _ _ l1_3 a0_1 a0_2 a0_3 _ _ l0_4 t653 _ ?side1 ?side2 ?side3 ?side4 A3.out).mono ?_); (case side1 => exact zC (Kd.C_below HR1_3.out HB.out)); (case side2 => exact HC1_3.out); (case side3 => exact zC (Kd.C_below HR0_4.out HB.out)); (case side4 => exact HC0_4.out); rintro e w10 ⟨rfl, hb⟩; refine ⟨_, rfl, ?_⟩; replace BK651 := zb BK651 hb; replace BK652 := zb BK652 hb; replace HB := zh HB hb; (try clear hb); obtain ⟨hcz11_0, hcz11_1, hcz11_2, hcz11_3, hcz11_4, hfz11_0, hfz11_1, hfz11_2, hfz11_3, hfz11_4⟩ := ze5 BK651.out))
 (try simp only [Act.put, zT])
 replace H := zI1 H
 rcases H with ⟨c4, H⟩ | ⟨c4, H⟩
 ·have c4b0 := beq_iff_eq.mpr c4
  have c4b1 := bne_eq_false_iff_eq.mpr c4
  clear c4
  obtain rfl := Option.some.inj H
  (try simp only [c4b0, c4b1])
  go_wp2
  go_ret
  exact ⟨zE, zW HB.out⟩
 ·have c4b0 := beq_eq_false_iff_ne.mpr c4
  have c4b1 := bne_iff_ne.mpr c4
  replace H := zI1 H
  rcases H with ⟨c12, H⟩ | ⟨c12, H⟩
  ·have c12b0 := beq_iff_eq.mpr c12
   have c12b1 := bne_eq_false_iff_eq.mpr c12
   clear c12
   obtain rfl := Option.some.inj H
   (try simp only [c4b0, c4b1, c12b0, c12b1])
   go_wp2
   go_ret
   exact ⟨zE, zW HB.out⟩
  ·have c12b0 := beq_eq_false_iff_ne.mpr c12
   have c12b1 := bne_iff_ne.mpr c12
   replace H := zI1 H
   rcases H with ⟨c20, H⟩ | ⟨c20, H⟩
   ·have c20b0 := beq_iff_eq.mpr c20
    have c20b1 := bne_eq_false_iff_eq.mpr c20
    clear c20
    obtain rfl := Option.some.inj H
    (try simp only [c4b0, c4b1, c12b0, c12b1, c20b0, c20b1])
    go_wp2
    go_ret
    exact ⟨zE, zW HB.out⟩
   ·have c20b0 := beq_eq_false_iff_ne.mpr c20
    have c20b1 := bne_iff_ne.mpr c20
    replace H := zI1 H
    rcases H with ⟨c28, H⟩ | ⟨c28, H⟩
    ·have c28b0 := beq_iff_eq.mpr c28
     have c28b1 := bne_eq_false_iff_eq.mpr c28
     clear c28
     obtain rfl := Option.some.inj H
     (try simp only [c4b0, c4b1, c12b0, c12b1, c20b0, c20b1, c28b0, c28b1])
     go_wp2
     go_ret
     exact ⟨zE, zW HB.out⟩
    ·have c28b0 := beq_eq_false_iff_ne.mpr c28
     have c28b1 := bne_iff_ne.mpr c28
     replace H := zI1 H
     rcases H with ⟨c36, H⟩ | ⟨c36, H⟩
     ·have c36b0 := beq_iff_eq.mpr c36
      have c36b1 := bne_eq_false_iff_eq.mpr c36
      clear c36
      obtain rfl := Option.some.inj H
      (try simp only [c4b0, c4b1, c12b0, c12b1, c20b0, c20b1, c28b0, c28b1, c36b0, c36b1])
      go_wp2
      go_ret
      exact ⟨zE, zW HB.out⟩
     ·have c36b0 := beq_eq_false_iff_ne.mpr c36
      have c36b1 := bne_iff_ne.mpr c36
      obtain rfl := Option.some.inj H
      (try simp only [c4b0, c4b1, c12b0, c12b1, c20b0, c20b1, c28b0, c28b1, c36b0, c36b1])
      go_wp2
      go_ret
      exact ⟨zE, zW HB.out⟩
/-! ### impl_takes: function 96 -/
def impl_takes.l0 : Nat → Bool → List (S75) → Int → Int → Int → Int → Int → List ByteArray → Option (Bool)
 | 0, _, _, _, _, _, _, _, _ => none
 | k + 1, x5, x12, x13, x14, x655000, x655001, x655002, x655003 => if x14 < x13 then (if 0 ≤ x14 then (if x14 < (x12.length : Int) then ((impl_CmpOk.f k ((rd_T75 x12 x14).f0) ((rd_T75 x12 x14).f1.f0) ((rd_T75 x12 x14).f1.f1) ((rd_T75 x12 x14).f1.f2) ((rd_T75 x12 x14).f1.f3) x655000 x655001 x655002 x655003).bind fun t657 => (if t657 = true then (if x5 = true then (impl_takes.l0 k true x12 x13 (wrap64 (x14 + 1)) x655000 x655001 x655002 x655003) else (if (((rd_T75 x12 x14).f1.f3).length : Int) > 0 then (if ((rd_T75 x12 x14).f1.f0) = x655000 then (if ((rd_T75 x12 x14).f1.f1) = x655001 then (impl_takes.l0 k (((rd_T75 x12 x14).f1.f2) == x655002) x12 x13 (wrap64 (x14 + 1)) x655000 x655001 x655002 x655003) else (impl_takes.l0 k false x12 x13 (wrap64 (x14 + 1)) x655000 x655001 x655002 x655003)) else (impl_takes.l0 k false x12 x13 (wrap64 (x14 + 1)) x655000 x655001 x655002 x655003)) else (impl_takes.l0 k false x12 x13 (wrap64 (x14 + 1)) x655000 x655001 x655002 x655003))) else (some false))) else (none)) else (none)) else (some x5)
def impl_takes.f (k : Nat) (l0 : List (S75)) (a1_0 a1_1 a1_2 : Int) (l1_3 : List ByteArray) : Option (Bool) := impl_takes.l0 k ((l1_3.length : Int) == 0) l0 (l0.length : Int) 0 a1_0 a1_1 a1_2 l1_3
theorem impl_takes.calls (k : Nat) (A0 : Option Addr) (c0 : Nat) (l0 : List (S75)) (a1_0 a1_1 a1_2 : Int) (A1_3 : Option Addr) (c1_3 : Nat) (l1_3 : List ByteArray) (r : Bool) (w : World) (hr0 : Kd.C k75 w A0 l0.length l0) (hc0 : l0.length ≤ c0) (hr1_3 : Kd.C Kd.string w A1_3 l1_3.length l1_3) (hc1_3 : l1_3.length ≤ c1_3) (h : impl_takes.f k l0 a1_0 a1_1 a1_2 l1_3 = some r) :
  Calls Tryz.prog 96 #[.slice A0 l0.length c0, .agg #[.int .i64 a1_0, .int .i64 a1_1, .int .i64 a1_2, .slice A1_3 l1_3.length c1_3]] w fun e w' => e = .returned (.bool r) ∧ Below w.heap.size w w' := by
 have hu32 := Tryz.underlying32
 have hu75 := Tryz.underlying75
 have HR0 := Aside0.mk hr0
 have HC0 := Aside0.mk hc0
 clear hr0 hc0
 have HR1_3 := Aside0.mk hr1_3
 have HC1_3 := Aside0.mk hc1_3
 clear hr1_3 hc1_3
 have HB := zA (Below.refl w.heap.size w)
 unfold impl_takes.f at h
 have H := h
 clear h
 have H' := Aside0.mk H
 clear H
 go_enter Tryz.func96, Tryz.ntmps96
 go_wp2_with (first | ((with_reducible refine gate_dst (N := 3) rfl ?_); (try (refine gate_guard (by rfl) ?_; dsimp only)); refine box_event ?hg (N := 3) ?hd (cs := #[.int .i64 a1_0, .int .i64 a1_1, .int .i64 a1_2, .slice A1_3 l1_3.length c1_3]) (t := 32) ?hr ?_; (case hd => rfl); (case hg => rfl); (case hr => first | (go_simp; done) | (go_simp; rfl)); intro gb654 hg w3 hbox hb; have BK654 := zA (hbox); have GW654 := zi HB hg; have GE654 := zi HB hg; replace HB := zA (below_step (zB) hb); clear hb hbox hg; obtain ⟨hcz4_0, hcz4_1, hcz4_2, hcz4_3, hfz4_0, hfz4_1, hfz4_2, hfz4_3⟩ := ze4 BK654.out))
 go_loopg [5, 14] k (fun kq v5 v14 w' => ∃ (x5_1 : Bool) (x14_1 : Int), v5 = .bool x5_1 ∧ v14 = .int .i64 x14_1 ∧ Aside0 (impl_takes.l0 kq x5_1 l0 (l0.length : Int) x14_1 a1_0 a1_1 a1_2 l1_3 = some r) ∧ Aside0 (kq ≤ k) ∧ Aside0 (w'.heap[gb654]? = some (.cells #[.int .i64 a1_0, .int .i64 a1_1, .int .i64 a1_2, (.slice A1_3 l1_3.length c1_3)] 32 (0, 0))) ∧ Aside0 (Below w.heap.size w w'))
 case atStart => exact ⟨(((l1_3.length : Int) == 0)), (0), zS, zS, H', ⟨Nat.le_refl _⟩, ⟨zK BK654.out⟩, ⟨zW HB.out⟩⟩
 case round =>
  clear H'
  try clear c1
  try clear p2
  try clear hcz4_0 hcz4_1 hcz4_2 hcz4_3 hfz4_0 hfz4_1 hfz4_2 hfz4_3
  obtain ⟨x5_1, x14_1, rfl, rfl, HA, HK1, BK654, HB⟩ := hrel
  cases gk with
  | zero => exact absurd HA.out (by simp [impl_takes.l0])
  | succ k1 =>
   have H := HA.out
   clear HA
   simp only [impl_takes.l0] at H
   replace H := zI0 H
   rcases H with ⟨c5b0, H⟩ | ⟨c5b0, H⟩
   ·replace H := zD0 H
    obtain ⟨c6b0, H⟩ := H
    replace H := zD0 H
    obtain ⟨c7b0, H⟩ := H
    replace H := zj H
    obtain ⟨t657, A8, H⟩ := H
    try dsimp only at H
    replace H := zB0 H
    rcases H with ⟨rfl, H⟩ | ⟨rfl, H⟩
    ·replace H := zB0 H
     rcases H with ⟨rfl, H⟩ | ⟨rfl, H⟩
     ·have H' := Aside0.mk H
      clear H
      have p655 : 0 ≤ (x14_1 : Int) := zD
      have q655 : x14_1 < (l0.length : Int) := zD
      obtain ⟨ad655, A655_4, c655_4, e655, hx655_0, hx655_1, hx655_2, hx655_3, hx655_4, hl655_4, hi655_4⟩ := at_T75 HR0.out x14_1 p655 q655
      cases e655
      replace hx655_0 := zx HB hx655_0
      replace hx655_1 := zx HB hx655_1
      replace hx655_2 := zx HB hx655_2
      replace hx655_3 := zx HB hx655_3
      replace hx655_4 := zx HB hx655_4
      have HR655_4 := Aside0.mk hi655_4
      have HC655_4 := Aside0.mk hl655_4
      clear hi655_4 hl655_4
      replace p655 := eq_true p655
      replace q655 := eq_true q655
      go_wp2_with (first | ((with_reducible refine gate_dst (N := 7) rfl ?_); (try (refine gate_guard (by rfl) ?_; dsimp only)); refine box_event ?hg (N := 7) ?hd (cs := #[.int .i64 0, .int .i64 0, .int .i64 0, .int .i64 0, .slice none 0 0]) (t := 75) ?hr ?_; (case hd => rfl); (case hg => rfl); (case hr => first | (go_simp; done) | (go_simp; rfl)); intro gb656 hg w11 hbox hb; have BK656 := zA (hbox); have GW656 := zi HB hg; have GE656 := zi HB hg; replace HB := zh HB hb; have NB654_656 := zA (zL hg (zK BK654.out)); have NB656_654 := zA (zJ hg (zK BK654.out)); replace BK654 := zb BK654 hb; clear hb hbox hg; have hnb12 := NB656_654.out; have hnc12 := NB654_656.out; obtain ⟨hcz13_0, hcz13_1, hcz13_2, hcz13_3, hcz13_4, hfz13_0, hfz13_1, hfz13_2, hfz13_3, hfz13_4⟩ := ze5 BK656.out; obtain ⟨hcz14_0, hcz14_1, hcz14_2, hcz14_3, hfz14_0, hfz14_1, hfz14_2, hfz14_3⟩ := ze4 BK654.out) | ((with_reducible refine zq 44 ?_); refine zg (some 20) Tryz.func44 #[.agg #[.int .i64 ((rd_T75 l0 x14_1).f0), .int .i64 ((rd_T75 l0 x14_1).f1.f0), .int .i64 ((rd_T75 l0 x14_1).f1.f1), .int .i64 ((rd_T75 l0 x14_1).f1.f2), .slice A655_4 ((rd_T75 l0 x14_1).f1.f3).length c655_4], .agg #[.int .i64 a1_0, .int .i64 a1_1, .int .i64 a1_2, .slice A1_3 l1_3.length c1_3]] ?_; (with_reducible refine (impl_CmpOk.calls k1 ((rd_T75 l0 x14_1).f0) ((rd_T75 l0 x14_1).f1.f0) ((rd_T75 l0 x14_1).f1.f1) ((rd_T75 l0 x14_1).f1.f2) _ _ ((rd_T75 l0 x14_1).f1.f3) a1_0 a1_1 a1_2 _ _ l1_3 true _ ?side1 ?side2 ?side3 ?side4 A8.out).mono ?_); (case side1 => exact Kd.C_below HR655_4.out (zW HB.out)); (case side2 => exact HC655_4.out); (case side3 => exact Kd.C_below HR1_3.out (zW HB.out)); (case side4 => exact HC1_3.out); rintro e w15 ⟨rfl, hb⟩; refine ⟨_, rfl, ?_⟩; replace BK654 := zb BK654 hb; replace BK656 := zA (blk_below (zk5 BK656.out) hb); replace HB := zh HB hb; (try clear hb)))
      go_roundg k1
      case measure => have := HK1.out; omega
      case rel => exact ⟨(true), (wrap64 (x14_1 + 1)), zS, zS, H', ⟨by have := HK1.out; omega⟩, ⟨zK BK654.out⟩, ⟨zW HB.out⟩⟩
     ·replace H := zI1 H
      rcases H with ⟨c16, H⟩ | ⟨c16, H⟩
      ·have c16b0 : decide (0 < (((rd_T75 l0 x14_1).f1.f3).length : Int)) = true := decide_eq_true c16
       have c16b1 : decide (0 < ((rd_T75 l0 x14_1).f1.f3).length) = true := decide_eq_true (by omega)
       clear c16
       replace H := zI1 H
       rcases H with ⟨c17, H⟩ | ⟨c17, H⟩
       ·have c17b0 := beq_iff_eq.mpr c17
        have c17b1 := bne_eq_false_iff_eq.mpr c17
        clear c17
        replace H := zI1 H
        rcases H with ⟨c18, H⟩ | ⟨c18, H⟩
        ·have c18b0 := beq_iff_eq.mpr c18
         have c18b1 := bne_eq_false_iff_eq.mpr c18
         clear c18
         have H' := Aside0.mk H
         clear H
         have p655 : 0 ≤ (x14_1 : Int) := zD
         have q655 : x14_1 < (l0.length : Int) := zD
         obtain ⟨ad655, A655_4, c655_4, e655, hx655_0, hx655_1, hx655_2, hx655_3, hx655_4, hl655_4, hi655_4⟩ := at_T75 HR0.out x14_1 p655 q655
         cases e655
         replace hx655_0 := zx HB hx655_0
         replace hx655_1 := zx HB hx655_1
         replace hx655_2 := zx HB hx655_2
         replace hx655_3 := zx HB hx655_3
         replace hx655_4 := zx HB hx655_4
         have HR655_4 := Aside0.mk hi655_4
         have HC655_4 := Aside0.mk hl655_4
         clear hi655_4 hl655_4
         replace p655 := eq_true p655
         replace q655 := eq_true q655
         go_wp2_with (first | ((with_reducible refine gate_dst (N := 7) rfl ?_); (try (refine gate_guard (by rfl) ?_; dsimp only)); refine box_event ?hg (N := 7) ?hd (cs := #[.int .i64 0, .int .i64 0, .int .i64 0, .int .i64 0, .slice none 0 0]) (t := 75) ?hr ?_; (case hd => rfl); (case hg => rfl); (case hr => first | (go_simp; done) | (go_simp; rfl)); intro gb656 hg w19 hbox hb; have BK656 := zA (hbox); have GW656 := zi HB hg; have GE656 := zi HB hg; replace HB := zh HB hb; have NB654_656 := zA (zL hg (zK BK654.out)); have NB656_654 := zA (zJ hg (zK BK654.out)); replace BK654 := zb BK654 hb; clear hb hbox hg; have hnb20 := NB656_654.out; have hnc20 := NB654_656.out; obtain ⟨hcz21_0, hcz21_1, hcz21_2, hcz21_3, hcz21_4, hfz21_0, hfz21_1, hfz21_2, hfz21_3, hfz21_4⟩ := ze5 BK656.out; obtain ⟨hcz22_0, hcz22_1, hcz22_2, hcz22_3, hfz22_0, hfz22_1, hfz22_2, hfz22_3⟩ := ze4 BK654.out) | ((with_reducible refine zq 44 ?_); refine zg (some 20) Tryz.func44 #[.agg #[.int .i64 ((rd_T75 l0 x14_1).f0), .int .i64 ((rd_T75 l0 x14_1).f1.f0), .int .i64 ((rd_T75 l0 x14_1).f1.f1), .int .i64 ((rd_T75 l0 x14_1).f1.f2), .slice A655_4 ((rd_T75 l0 x14_1).f1.f3).length c655_4], .agg #[.int .i64 a1_0, .int .i64 a1_1, .int .i64 a1_2, .slice A1_3 l1_3.length c1_3]] ?_; (with_reducible refine (impl_CmpOk.calls k1 ((rd_T75 l0 x14_1).f0) ((rd_T75 l0 x14_1).f1.f0) ((rd_T75 l0 x14_1).f1.f1) ((rd_T75 l0 x14_1).f1.f2) _ _ ((rd_T75 l0 x14_1).f1.f3) a1_0 a1_1 a1_2 _ _ l1_3 true _ ?side1 ?side2 ?side3 ?side4 A8.out).mono ?_); (case side1 => exact Kd.C_below HR655_4.out (zW HB.out)); (case side2 => exact HC655_4.out); (case side3 => exact Kd.C_below HR1_3.out (zW HB.out)); (case side4 => exact HC1_3.out); rintro e w23 ⟨rfl, hb⟩; refine ⟨_, rfl, ?_⟩; replace BK654 := zb BK654 hb; replace BK656 := zA (blk_below (zk5 BK656.out) hb); replace HB := zh HB hb; (try clear hb); obtain ⟨hcz24_0, hcz24_1, hcz24_2, hcz24_3, hcz24_4, hfz24_0, hfz24_1, hfz24_2, hfz24_3, hfz24_4⟩ := ze5 BK656.out; obtain ⟨hcz25_0, hcz25_1, hcz25_2, hcz25_3, hfz25_0, hfz25_1, hfz25_2, hfz25_3⟩ := ze4 BK654.out))
         go_roundg k1
         case measure => have := HK1.out; omega
         case rel => exact ⟨((((rd_T75 l0 x14_1).f1.f2) == a1_2)), (wrap64 (x14_1 + 1)), zS, zS, H', ⟨by have := HK1.out; omega⟩, ⟨zK BK654.out⟩, ⟨zW HB.out⟩⟩
        ·have c18b0 := beq_eq_false_iff_ne.mpr c18
         have c18b1 := bne_iff_ne.mpr c18
         have H' := Aside0.mk H
         clear H
         have p655 : 0 ≤ (x14_1 : Int) := zD
         have q655 : x14_1 < (l0.length : Int) := zD
         obtain ⟨ad655, A655_4, c655_4, e655, hx655_0, hx655_1, hx655_2, hx655_3, hx655_4, hl655_4, hi655_4⟩ := at_T75 HR0.out x14_1 p655 q655
         cases e655
         replace hx655_0 := zx HB hx655_0
         replace hx655_1 := zx HB hx655_1
         replace hx655_2 := zx HB hx655_2
         replace hx655_3 := zx HB hx655_3
         replace hx655_4 := zx HB hx655_4
         have HR655_4 := Aside0.mk hi655_4
         have HC655_4 := Aside0.mk hl655_4
         clear hi655_4 hl655_4
         replace p655 := eq_true p655
         replace q655 := eq_true q655
         go_wp2_with (first | ((with_reducible refine gate_dst (N := 7) rfl ?_); (try (refine gate_guard (by rfl) ?_; dsimp only)); refine box_event ?hg (N := 7) ?hd (cs := #[.int .i64 0, .int .i64 0, .int .i64 0, .int .i64 0, .slice none 0 0]) (t := 75) ?hr ?_; (case hd => rfl); (case hg => rfl); (case hr => first | (go_simp; done) | (go_simp; rfl)); intro gb656 hg w26 hbox hb; have BK656 := zA (hbox); have GW656 := zi HB hg; have GE656 := zi HB hg; replace HB := zh HB hb; have NB654_656 := zA (zL hg (zK BK654.out)); have NB656_654 := zA (zJ hg (zK BK654.out)); replace BK654 := zb BK654 hb; clear hb hbox hg; have hnb27 := NB656_654.out; have hnc27 := NB654_656.out; obtain ⟨hcz28_0, hcz28_1, hcz28_2, hcz28_3, hcz28_4, hfz28_0, hfz28_1, hfz28_2, hfz28_3, hfz28_4⟩ := ze5 BK656.out; obtain ⟨hcz29_0, hcz29_1, hcz29_2, hcz29_3, hfz29_0, hfz29_1, hfz29_2, hfz29_3⟩ := ze4 BK654.out) | ((with_reducible refine zq 44 ?_); refine zg (some 20) Tryz.func44 #[.agg #[.int .i64 ((rd_T75 l0 x14_1).f0), .int .i64 ((rd_T75 l0 x14_1).f1.f0), .int .i64 ((rd_T75 l0 x14_1).f1.f1), .int .i64 ((rd_T75 l0 x14_1).f1.f2), .slice A655_4 ((rd_T75 l0 x14_1).f1.f3).length c655_4], .agg #[.int .i64 a1_0, .int .i64 a1_1, .int .i64 a1_2, .slice A1_3 l1_3.length c1_3]] ?_; (with_reducible refine (impl_CmpOk.calls k1 ((rd_T75 l0 x14_1).f0) ((rd_T75 l0 x14_1).f1.f0) ((rd_T75 l0 x14_1).f1.f1) ((rd_T75 l0 x14_1).f1.f2) _ _ ((rd_T75 l0 x14_1).f1.f3) a1_0 a1_1 a1_2 _ _ l1_3 true _ ?side1 ?side2 ?side3 ?side4 A8.out).mono ?_); (case side1 => exact Kd.C_below HR655_4.out (zW HB.out)); (case side2 => exact HC655_4.out); (case side3 => exact Kd.C_below HR1_3.out (zW HB.out)); (case side4 => exact HC1_3.out); rintro e w30 ⟨rfl, hb⟩; refine ⟨_, rfl, ?_⟩; replace BK654 := zb BK654 hb; replace BK656 := zA (blk_below (zk5 BK656.out) hb); replace HB := zh HB hb; (try clear hb); obtain ⟨hcz31_0, hcz31_1, hcz31_2, hcz31_3, hcz31_4, hfz31_0, hfz31_1, hfz31_2, hfz31_3, hfz31_4⟩ := ze5 BK656.out; obtain ⟨hcz32_0, hcz32_1, hcz32_2, hcz32_3, hfz32_0, hfz32_1, hfz32_2, hfz32_3⟩ := ze4 BK654.out))
         go_roundg k1
         case measure => have := HK1.out; omega
         case rel => exact ⟨(false), (wrap64 (x14_1 + 1)), zS, zS, H', ⟨by have := HK1.out; omega⟩, ⟨zK BK654.out⟩, ⟨zW HB.out⟩⟩
       ·have c17b0 := beq_eq_false_iff_ne.mpr c17
        have c17b1 := bne_iff_ne.mpr c17
        have H' := Aside0.mk H
        clear H
        have p655 : 0 ≤ (x14_1 : Int) := zD
        have q655 : x14_1 < (l0.length : Int) := zD
        obtain ⟨ad655, A655_4, c655_4, e655, hx655_0, hx655_1, hx655_2, hx655_3, hx655_4, hl655_4, hi655_4⟩ := at_T75 HR0.out x14_1 p655 q655
        cases e655
        replace hx655_0 := zx HB hx655_0
        replace hx655_1 := zx HB hx655_1
        replace hx655_2 := zx HB hx655_2
        replace hx655_3 := zx HB hx655_3
        replace hx655_4 := zx HB hx655_4
        have HR655_4 := Aside0.mk hi655_4
        have HC655_4 := Aside0.mk hl655_4
        clear hi655_4 hl655_4
        replace p655 := eq_true p655
        replace q655 := eq_true q655
        go_wp2_with (first | ((with_reducible refine gate_dst (N := 7) rfl ?_); (try (refine gate_guard (by rfl) ?_; dsimp only)); refine box_event ?hg (N := 7) ?hd (cs := #[.int .i64 0, .int .i64 0, .int .i64 0, .int .i64 0, .slice none 0 0]) (t := 75) ?hr ?_; (case hd => rfl); (case hg => rfl); (case hr => first | (go_simp; done) | (go_simp; rfl)); intro gb656 hg w33 hbox hb; have BK656 := zA (hbox); have GW656 := zi HB hg; have GE656 := zi HB hg; replace HB := zh HB hb; have NB654_656 := zA (zL hg (zK BK654.out)); have NB656_654 := zA (zJ hg (zK BK654.out)); replace BK654 := zb BK654 hb; clear hb hbox hg; have hnb34 := NB656_654.out; have hnc34 := NB654_656.out; obtain ⟨hcz35_0, hcz35_1, hcz35_2, hcz35_3, hcz35_4, hfz35_0, hfz35_1, hfz35_2, hfz35_3, hfz35_4⟩ := ze5 BK656.out; obtain ⟨hcz36_0, hcz36_1, hcz36_2, hcz36_3, hfz36_0, hfz36_1, hfz36_2, hfz36_3⟩ := ze4 BK654.out) | ((with_reducible refine zq 44 ?_); refine zg (some 20) Tryz.func44 #[.agg #[.int .i64 ((rd_T75 l0 x14_1).f0), .int .i64 ((rd_T75 l0 x14_1).f1.f0), .int .i64 ((rd_T75 l0 x14_1).f1.f1), .int .i64 ((rd_T75 l0 x14_1).f1.f2), .slice A655_4 ((rd_T75 l0 x14_1).f1.f3).length c655_4], .agg #[.int .i64 a1_0, .int .i64 a1_1, .int .i64 a1_2, .slice A1_3 l1_3.length c1_3]] ?_; (with_reducible refine (impl_CmpOk.calls k1 ((rd_T75 l0 x14_1).f0) ((rd_T75 l0 x14_1).f1.f0) ((rd_T75 l0 x14_1).f1.f1) ((rd_T75 l0 x14_1).f1.f2) _ _ ((rd_T75 l0 x14_1).f1.f3) a1_0 a1_1 a1_2 _ _ l1_3 true _ ?side1 ?side2 ?side3 ?side4 A8.out).mono ?_); (case side1 => exact Kd.C_below HR655_4.out (zW HB.out)); (case side2 => exact HC655_4.out); (case side3 => exact Kd.C_below HR1_3.out (zW HB.out)); (case side4 => exact HC1_3.out); rintro e w37 ⟨rfl, hb⟩; refine ⟨_, rfl, ?_⟩; replace BK654 := zb BK654 hb; replace BK656 := zA (blk_below (zk5 BK656.out) hb); replace HB := zh HB hb; (try clear hb); obtain ⟨hcz38_0, hcz38_1, hcz38_2, hcz38_3, hcz38_4, hfz38_0, hfz38_1, hfz38_2, hfz38_3, hfz38_4⟩ := ze5 BK656.out; obtain ⟨hcz39_0, hcz39_1, hcz39_2, hcz39_3, hfz39_0, hfz39_1, hfz39_2, hfz39_3⟩ := ze4 BK654.out))
        go_roundg k1
        case measure => have := HK1.out; omega
        case rel => exact ⟨(false), (wrap64 (x14_1 + 1)), zS, zS, H', ⟨by have := HK1.out; omega⟩, ⟨zK BK654.out⟩, ⟨zW HB.out⟩⟩
      ·have c16b0 : decide (0 < (((rd_T75 l0 x14_1).f1.f3).length : Int)) = false := decide_eq_false c16
       have c16b1 : decide (0 < ((rd_T75 l0 x14_1).f1.f3).length) = false := decide_eq_false (by omega)
       clear c16
       have H' := Aside0.mk H
       clear H
       have p655 : 0 ≤ (x14_1 : Int) := zD
       have q655 : x14_1 < (l0.length : Int) := zD
       obtain ⟨ad655, A655_4, c655_4, e655, hx655_0, hx655_1, hx655_2, hx655_3, hx655_4, hl655_4, hi655_4⟩ := at_T75 HR0.out x14_1 p655 q655
       cases e655
       replace hx655_0 := zx HB hx655_0
       replace hx655_1 := zx HB hx655_1
       replace hx655_2 := zx HB hx655_2
       replace hx655_3 := zx HB hx655_3
       replace hx655_4 := zx HB hx655_4
       have HR655_4 := Aside0.mk hi655_4
       have HC655_4 := Aside0.mk hl655_4
       clear hi655_4 hl655_4
       replace p655 := eq_true p655
       replace q655 := eq_true q655
       go_wp2_with (first | ((with_reducible refine gate_dst (N := 7) rfl ?_); (try (refine gate_guard (by rfl) ?_; dsimp only)); refine box_event ?hg (N := 7) ?hd (cs := #[.int .i64 0, .int .i64 0, .int .i64 0, .int .i64 0, .slice none 0 0]) (t := 75) ?hr ?_; (case hd => rfl); (case hg => rfl); (case hr => first | (go_simp; done) | (go_simp; rfl)); intro gb656 hg w40 hbox hb; have BK656 := zA (hbox); have GW656 := zi HB hg; have GE656 := zi HB hg; replace HB := zh HB hb; have NB654_656 := zA (zL hg (zK BK654.out)); have NB656_654 := zA (zJ hg (zK BK654.out)); replace BK654 := zb BK654 hb; clear hb hbox hg; have hnb41 := NB656_654.out; have hnc41 := NB654_656.out; obtain ⟨hcz42_0, hcz42_1, hcz42_2, hcz42_3, hcz42_4, hfz42_0, hfz42_1, hfz42_2, hfz42_3, hfz42_4⟩ := ze5 BK656.out; obtain ⟨hcz43_0, hcz43_1, hcz43_2, hcz43_3, hfz43_0, hfz43_1, hfz43_2, hfz43_3⟩ := ze4 BK654.out) | ((with_reducible refine zq 44 ?_); refine zg (some 20) Tryz.func44 #[.agg #[.int .i64 ((rd_T75 l0 x14_1).f0), .int .i64 ((rd_T75 l0 x14_1).f1.f0), .int .i64 ((rd_T75 l0 x14_1).f1.f1), .int .i64 ((rd_T75 l0 x14_1).f1.f2), .slice A655_4 ((rd_T75 l0 x14_1).f1.f3).length c655_4], .agg #[.int .i64 a1_0, .int .i64 a1_1, .int .i64 a1_2, .slice A1_3 l1_3.length c1_3]] ?_; (with_reducible refine (impl_CmpOk.calls k1 ((rd_T75 l0 x14_1).f0) ((rd_T75 l0 x14_1).f1.f0) ((rd_T75 l0 x14_1).f1.f1) ((rd_T75 l0 x14_1).f1.f2) _ _ ((rd_T75 l0 x14_1).f1.f3) a1_0 a1_1 a1_2 _ _ l1_3 true _ ?side1 ?side2 ?side3 ?side4 A8.out).mono ?_); (case side1 => exact Kd.C_below HR655_4.out (zW HB.out)); (case side2 => exact HC655_4.out); (case side3 => exact Kd.C_below HR1_3.out (zW HB.out)); (case side4 => exact HC1_3.out); rintro e w44 ⟨rfl, hb⟩; refine ⟨_, rfl, ?_⟩; replace BK654 := zb BK654 hb; replace BK656 := zA (blk_below (zk5 BK656.out) hb); replace HB := zh HB hb; (try clear hb); obtain ⟨hcz45_0, hcz45_1, hcz45_2, hcz45_3, hcz45_4, hfz45_0, hfz45_1, hfz45_2, hfz45_3, hfz45_4⟩ := ze5 BK656.out))
       go_roundg k1
       case measure => have := HK1.out; omega
       case rel => exact ⟨(false), (wrap64 (x14_1 + 1)), zS, zS, H', ⟨by have := HK1.out; omega⟩, ⟨zK BK654.out⟩, ⟨zW HB.out⟩⟩
    ·obtain rfl := Option.some.inj H
     have p655 : 0 ≤ (x14_1 : Int) := zD
     have q655 : x14_1 < (l0.length : Int) := zD
     obtain ⟨ad655, A655_4, c655_4, e655, hx655_0, hx655_1, hx655_2, hx655_3, hx655_4, hl655_4, hi655_4⟩ := at_T75 HR0.out x14_1 p655 q655
     cases e655
     replace hx655_0 := zx HB hx655_0
     replace hx655_1 := zx HB hx655_1
     replace hx655_2 := zx HB hx655_2
     replace hx655_3 := zx HB hx655_3
     replace hx655_4 := zx HB hx655_4
     have HR655_4 := Aside0.mk hi655_4
     have HC655_4 := Aside0.mk hl655_4
     clear hi655_4 hl655_4
     replace p655 := eq_true p655
     replace q655 := eq_true q655
     go_wp2_with (first | ((with_reducible refine gate_dst (N := 7) rfl ?_); (try (refine gate_guard (by rfl) ?_; dsimp only)); refine box_event ?hg (N := 7) ?hd (cs := #[.int .i64 0, .int .i64 0, .int .i64 0, .int .i64 0, .slice none 0 0]) (t := 75) ?hr ?_; (case hd => rfl); (case hg => rfl); (case hr => first | (go_simp; done) | (go_simp; rfl)); intro gb656 hg w46 hbox hb; have BK656 := zA (hbox); have GW656 := zi HB hg; have GE656 := zi HB hg; replace HB := zh HB hb; have NB654_656 := zA (zL hg (zK BK654.out)); have NB656_654 := zA (zJ hg (zK BK654.out)); replace BK654 := zb BK654 hb; clear hb hbox hg; have hnb47 := NB656_654.out; have hnc47 := NB654_656.out; obtain ⟨hcz48_0, hcz48_1, hcz48_2, hcz48_3, hcz48_4, hfz48_0, hfz48_1, hfz48_2, hfz48_3, hfz48_4⟩ := ze5 BK656.out; obtain ⟨hcz49_0, hcz49_1, hcz49_2, hcz49_3, hfz49_0, hfz49_1, hfz49_2, hfz49_3⟩ := ze4 BK654.out) | ((with_reducible refine zq 44 ?_); refine zg (some 20) Tryz.func44 #[.agg #[.int .i64 ((rd_T75 l0 x14_1).f0), .int .i64 ((rd_T75 l0 x14_1).f1.f0), .int .i64 ((rd_T75 l0 x14_1).f1.f1), .int .i64 ((rd_T75 l0 x14_1).f1.f2), .slice A655_4 ((rd_T75 l0 x14_1).f1.f3).length c655_4], .agg #[.int .i64 a1_0, .int .i64 a1_1, .int .i64 a1_2, .slice A1_3 l1_3.length c1_3]] ?_; (with_reducible refine (impl_CmpOk.calls k1 ((rd_T75 l0 x14_1).f0) ((rd_T75 l0 x14_1).f1.f0) ((rd_T75 l0 x14_1).f1.f1) ((rd_T75 l0 x14_1).f1.f2) _ _ ((rd_T75 l0 x14_1).f1.f3) a1_0 a1_1 a1_2 _ _ l1_3 false _ ?side1 ?side2 ?side3 ?side4 A8.out).mono ?_); (case side1 => exact Kd.C_below HR655_4.out (zW HB.out)); (case side2 => exact HC655_4.out); (case side3 => exact Kd.C_below HR1_3.out (zW HB.out)); (case side4 => exact HC1_3.out); rintro e w50 ⟨rfl, hb⟩; refine ⟨_, rfl, ?_⟩; replace BK654 := zb BK654 hb; replace BK656 := zA (blk_below (zk5 BK656.out) hb); replace HB := zh HB hb; (try clear hb)))
     go_ret
     exact ⟨zE, zW HB.out⟩
   ·obtain rfl := Option.some.inj H
    go_wp2
    go_ret
    exact ⟨zE, zW HB.out⟩
end Go.Proofs.YtpcdhoeoefoeoaaGreatDoor.PGA
