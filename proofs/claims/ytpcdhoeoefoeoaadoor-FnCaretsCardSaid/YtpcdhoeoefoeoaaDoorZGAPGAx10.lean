/- The walks of the functions that these laws reach, and what each comes to: printed by this session's program. -/
import Derived.Test.YtpcdhoeoefoeoaaDoorZGAPGAx0
import Derived.Test.YtpcdhoeoefoeoaaDoorZGAPGAx9
import Derived.Test.YtpcdhoeoefoeoaaDoorZGASays
import Derived.Test.YtpcdhoeoefoeoaaDoorZGARegs
namespace Go.Proofs.YtpcdhoeoefoeoaaDoor.PGA
open Go.RowKit Go.Proofs.YtpcdhoeoefoeoaaDoorW.PrintWords Go.Proofs.YtpcdhoeoefoeoaaDoorW.PrintLast Go.Proofs.YtpcdhoeoefoeoaaDoorW.PrintMore
attribute [local go_sem high] Go.Proofs.YtpcdhoeoefoeoaaDoor.Mine.str_gtr Go.Proofs.YtpcdhoeoefoeoaaDoor.Mine.str_leq Go.Proofs.YtpcdhoeoefoeoaaDoor.Mine.str_geq
attribute [local go_sem] max2_int min2_int max_two min_two max_three min_three max_four min_four   -- for this text's walks alone
set_option linter.unusedVariables false
set_option maxHeartbeats 8000000
set_option maxRecDepth 100000
set_option linter.unusedSimpArgs false
/-! ### slices_CompareFunc_string_string_string_string: function 35 -/
mutual
def slices_CompareFunc_string_string_string_string.l0 : Nat → List ByteArray → List ByteArray → List ByteArray → Int → Int → Option (Int)
 | 0, _, _, _, _, _ => none
 | k + 1, x0, x1, x11, x12, x13 => if x13 < x12 then (slices_CompareFunc_string_string_string_string.j1 k x0 x1 x11 x12 x13) else (if (x0.length : Int) < (x1.length : Int) then (some (-1)) else (some 0))
def slices_CompareFunc_string_string_string_string.j1 : Nat → List ByteArray → List ByteArray → List ByteArray → Int → Int → Option (Int)
 | 0, _, _, _, _, _ => none
 | k + 1, x0, x1, x11, x12, x13 => if 0 ≤ x13 then (if x13 < (x11.length : Int) then (if x13 ≥ (x1.length : Int) then (some 1) else (if x13 < (x1.length : Int) then ((impl_compareWords.f k (rdOf ByteArray.empty x11 x13) (rdOf ByteArray.empty x1 x13)).bind fun t367 => (if t367 = 0 then (slices_CompareFunc_string_string_string_string.l0 k x0 x1 x11 x12 (wrap64 (x13 + 1))) else (some t367))) else (none))) else (none)) else (none)
end
def slices_CompareFunc_string_string_string_string.f (k : Nat) (l0 : List ByteArray) (l1 : List ByteArray) : Option (Int) := slices_CompareFunc_string_string_string_string.l0 k l0 l1 l0 (l0.length : Int) 0
theorem slices_CompareFunc_string_string_string_string.calls (k : Nat) (A0 : Option Addr) (c0 : Nat) (l0 : List ByteArray) (A1 : Option Addr) (c1 : Nat) (l1 : List ByteArray) (r : Int) (w : World) (hr0 : Kd.C Kd.string w A0 l0.length l0) (hc0 : l0.length ≤ c0) (hr1 : Kd.C Kd.string w A1 l1.length l1) (hc1 : l1.length ≤ c1) (h : slices_CompareFunc_string_string_string_string.f k l0 l1 = some r) :
  Calls Tryd.prog 35 #[.slice A0 l0.length c0, .slice A1 l1.length c1, .func (.func 36) #[] #[]] w fun e w' => e = .returned (.int .i64 r) ∧ Below w.heap.size w w' := by
 have HR0 := Aside0.mk hr0
 have HC0 := Aside0.mk hc0
 clear hr0 hc0
 have HR1 := Aside0.mk hr1
 have HC1 := Aside0.mk hc1
 clear hr1 hc1
 have HB := zA (Below.refl w.heap.size w)
 have H : (slices_CompareFunc_string_string_string_string.l0 k l0 l1 l0 (l0.length : Int) 0) = some r := h
 clear h
 have H' := Aside0.mk H
 clear H
 go_enter Tryd.func35, Tryd.ntmps35
 go_wp2
 go_loopg [13] k (fun kq v13 w' => ∃ (x13_1 : Int), v13 = .int .i64 x13_1 ∧ Aside0 (slices_CompareFunc_string_string_string_string.l0 kq l0 l1 l0 (l0.length : Int) x13_1 = some r) ∧ Aside0 (kq ≤ k) ∧ Aside0 (Below w.heap.size w w'))
 case atStart => exact ⟨(0), zS, H', ⟨Nat.le_refl _⟩, ⟨zB⟩⟩
 case round =>
  clear H'
  try clear c1
  try clear p2
  obtain ⟨x13_1, rfl, HA, HK1, HB⟩ := hrel
  cases gk with
  | zero => exact absurd HA.out (by simp [slices_CompareFunc_string_string_string_string.l0])
  | succ k1 =>
   have H := HA.out
   clear HA
   simp only [slices_CompareFunc_string_string_string_string.l0] at H
   have HC3 := Aside0.mk H
   clear H
   go_upto_if 14 with (fail)
   go_cut [] (fun wc => ∃ (kq : Nat), Aside0 (slices_CompareFunc_string_string_string_string.j1 kq l0 l1 l0 (l0.length : Int) x13_1 = some r) ∧ Aside0 (kq ≤ k1) ∧ Aside0 (Below w.heap.size w wc))
   case first =>
    have H := HC3.out
    clear HC3
    by_cases c4 : x13_1 < (l0.length : Int)
    ·rw [if_pos c4] at H
     have c4b0 := decide_eq_true c4
     clear c4
     (first | rw [c4b0] | (simp only [i64_w, i32_w]; rw [c4b0]) | skip)
     have H' := Aside0.mk H
     clear H
     go_wp2
     go_meet
     case rel => exact ⟨_, (by first | exact H' | (subst_vars; exact H')), ⟨by have := HK1.out; first | omega | exact Nat.le_refl _⟩, ⟨zB⟩⟩
    ·rw [if_neg c4] at H
     have c4b0 := decide_eq_false c4
     clear c4
     (first | rw [c4b0] | (simp only [i64_w, i32_w]; rw [c4b0]) | skip)
     by_cases c5 : (l0.length : Int) < (l1.length : Int)
     ·rw [if_pos c5] at H
      have c5b0 := decide_eq_true c5
      have c5b1 : decide (l0.length < l1.length) = true := decide_eq_true (Int.ofNat_lt.mp c5)
      clear c5
      obtain rfl := Option.some.inj H
      go_wp2
      go_ret
      exact ⟨zE, zB⟩
     ·rw [if_neg c5] at H
      have c5b0 := decide_eq_false c5
      have c5b1 : decide (l0.length < l1.length) = false := decide_eq_false (fun h => c5 (Int.ofNat_lt.mpr h))
      clear c5
      obtain rfl := Option.some.inj H
      go_wp2
      go_ret
      exact ⟨zE, zB⟩
   case rest =>
    clear HC3
    try clear c1
    try clear p2
    try clear c3
    try clear c4
    try clear c4b0
    try clear c5
    try clear c5b0
    try clear c5b1
    try clear p2
    obtain ⟨kq, HA, HJ2, HB⟩ := hcut
    cases kq with
    | zero => exact absurd HA.out (by simp [slices_CompareFunc_string_string_string_string.j1])
    | succ kj2 =>
     have H := HA.out
     clear HA
     simp only [slices_CompareFunc_string_string_string_string.j1] at H
     by_cases c6 : 0 ≤ x13_1
     ·rw [if_pos c6] at H
      have c6b0 := decide_eq_true c6
      clear c6
      by_cases c7 : x13_1 < (l0.length : Int)
      ·rw [if_pos c7] at H
       have c7b0 := decide_eq_true c7
       clear c7
       by_cases c8 : x13_1 ≥ (l1.length : Int)
       ·rw [if_pos c8] at H
        have c8b0 : decide ((l1.length : Int) ≤ x13_1) = true := decide_eq_true c8
        clear c8
        obtain rfl := Option.some.inj H
        have p365 : 0 ≤ (x13_1 : Int) := zD
        have q365 : x13_1 < (l0.length : Int) := zD
        obtain ⟨ad365, e365, hx365_0⟩ := Kd.at_string HR0.out x13_1 p365 q365
        cases e365
        replace hx365_0 := (HB.out.cell (World.block_lt_of_cell? w _ hx365_0)).trans hx365_0
        replace p365 := eq_true p365
        replace q365 := eq_true q365
        go_wp2
        go_ret
        exact ⟨zE, zB⟩
       ·rw [if_neg c8] at H
        have c8b0 : decide ((l1.length : Int) ≤ x13_1) = false := decide_eq_false c8
        clear c8
        by_cases c9 : x13_1 < (l1.length : Int)
        ·rw [if_pos c9] at H
         have c9b0 := decide_eq_true c9
         clear c9
         replace H := Option.bind_eq_some_iff.mp H
         obtain ⟨t367, A100, H⟩ := H
         try dsimp only at H
         have A10 := Aside0.mk A100
         clear A100
         by_cases c11 : t367 = 0
         ·rw [if_pos c11] at H
          have c11b0 : (t367 == 0) = true := beq_iff_eq.mpr c11
          have c11b1 : (t367 != 0) = false := bne_eq_false_iff_eq.mpr c11
          clear c11
          have H' := Aside0.mk H
          clear H
          have p365 : 0 ≤ (x13_1 : Int) := zD
          have q365 : x13_1 < (l0.length : Int) := zD
          obtain ⟨ad365, e365, hx365_0⟩ := Kd.at_string HR0.out x13_1 p365 q365
          cases e365
          replace hx365_0 := (HB.out.cell (World.block_lt_of_cell? w _ hx365_0)).trans hx365_0
          replace p365 := eq_true p365
          replace q365 := eq_true q365
          have p366 : 0 ≤ (x13_1 : Int) := zD
          have q366 : x13_1 < (l1.length : Int) := zD
          obtain ⟨ad366, e366, hx366_0⟩ := Kd.at_string HR1.out x13_1 p366 q366
          cases e366
          replace hx366_0 := (HB.out.cell (World.block_lt_of_cell? w _ hx366_0)).trans hx366_0
          replace p366 := eq_true p366
          replace q366 := eq_true q366
          go_wp2_with (first | (go_at_call 36; (with_reducible refine (impl_compareWords.calls kj2 (rdOf ByteArray.empty l0 x13_1) (rdOf ByteArray.empty l1 x13_1) t367 _ A10.out).mono ?_); rintro e w12 ⟨rfl, hb⟩; replace HB := zA (below_step (zB) hb); (try clear hb)))
          go_roundg kj2
          case measure => have := HK1.out; have := HJ2.out; omega
          case rel => exact ⟨(wrap64 (x13_1 + 1)), zS, H', ⟨by have := HK1.out; have := HJ2.out; omega⟩, ⟨zB⟩⟩
         ·rw [if_neg c11] at H
          have c11b0 : (t367 == 0) = false := beq_eq_false_iff_ne.mpr c11
          have c11b1 : (t367 != 0) = true := bne_iff_ne.mpr c11
          obtain rfl := Option.some.inj H
          have p365 : 0 ≤ (x13_1 : Int) := zD
          have q365 : x13_1 < (l0.length : Int) := zD
          obtain ⟨ad365, e365, hx365_0⟩ := Kd.at_string HR0.out x13_1 p365 q365
          cases e365
          replace hx365_0 := (HB.out.cell (World.block_lt_of_cell? w _ hx365_0)).trans hx365_0
          replace p365 := eq_true p365
          replace q365 := eq_true q365
          have p366 : 0 ≤ (x13_1 : Int) := zD
          have q366 : x13_1 < (l1.length : Int) := zD
          obtain ⟨ad366, e366, hx366_0⟩ := Kd.at_string HR1.out x13_1 p366 q366
          cases e366
          replace hx366_0 := (HB.out.cell (World.block_lt_of_cell? w _ hx366_0)).trans hx366_0
          replace p366 := eq_true p366
          replace q366 := eq_true q366
          go_wp2_with (first | (go_at_call 36; (with_reducible refine (impl_compareWords.calls kj2 (rdOf ByteArray.empty l0 x13_1) (rdOf ByteArray.empty l1 x13_1) t367 _ A10.out).mono ?_); rintro e w13 ⟨rfl, hb⟩; replace HB := zA (below_step (zB) hb); (try clear hb)))
          go_ret
          exact ⟨zE, zB⟩
        ·rw [if_neg c9] at H
         exact absurd H (by simp)
      ·rw [if_neg c7] at H
       exact absurd H (by simp)
     ·rw [if_neg c6] at H
      exact absurd H (by simp)
/-! ### impl_compareVer: function 18 -/
def impl_compareVer.j0 : Nat → Int → Int → Int → List ByteArray → Int → Int → Int → List ByteArray → Option (Int)
 | 0, _, _, _, _, _, _, _, _ => none
 | k + 1, x369000, x369001, x369002, x369003, x370000, x370001, x370002, x370003 => if (((x369003.length : Int) == 0) != ((x370003.length : Int) == 0)) = true then (if (x369003.length : Int) > 0 then (some (-1)) else (some 1)) else ((slices_CompareFunc_string_string_string_string.f k x369003 x370003).bind fun t377 => (some t377))
def impl_compareVer.f (k : Nat) (a0_0 : Int) (a0_1 : Int) (a0_2 : Int) (l0_3 : List ByteArray) (a1_0 : Int) (a1_1 : Int) (a1_2 : Int) (l1_3 : List ByteArray) : Option (Int) := (cmp_Compare_int.f k a0_0 a1_0).bind fun t370 => ((cmp_Compare_int.f k a0_1 a1_1).bind fun t371 => ((cmp_Compare_int.f k a0_2 a1_2).bind fun t372 => ((cmp_Or_int.f k (([t370, t371, t372] : List Int))).bind fun t376 => (if t376 = 0 then (impl_compareVer.j0 k a0_0 a0_1 a0_2 l0_3 a1_0 a1_1 a1_2 l1_3) else (some t376)))))
def impl_compareVer.T1 : Bool × List (List Nat × List Nat) := (true, [([], []), ([0], [0]), ([], []), ([2], [2]), ([1, 3], [1, 3]), ([], []), ([5], [5]), ([], []), ([7], [7]), ([6, 8, 4], [6, 8]), ([], []), ([10], [10]), ([], []), ([12], [12]), ([11, 13, 9], [11, 13]), ([4, 9, 14], [4, 9, 14]), ([15, 14], [15]), ([16, 16, 0, 1, 2, 3, 4, 5, 6, 7, 8, 9, 10, 11, 12, 13, 14, 15, 16], [16])])
def impl_compareVer.B1 : List Nat := [0, 1, 0, 4, 15, 0, 32, 0, 128, 511, 0, 1024, 0, 4096, 16383, 32767, 65535, 131071]
theorem impl_compareVer.tab1 : rtab .any (opsOf Tryd.f18 1) = impl_compareVer.T1 := by kernel_rfl
theorem impl_compareVer.bits1 : waitsOk impl_compareVer.T1.2 impl_compareVer.B1 = true := by kernel_rfl
theorem impl_compareVer.calls (k : Nat) (a0_0 : Int) (a0_1 : Int) (a0_2 : Int) (A0_3 : Option Addr) (c0_3 : Nat) (l0_3 : List ByteArray) (a1_0 : Int) (a1_1 : Int) (a1_2 : Int) (A1_3 : Option Addr) (c1_3 : Nat) (l1_3 : List ByteArray) (r : Int) (w : World) (hr0_3 : Kd.C Kd.string w A0_3 l0_3.length l0_3) (hc0_3 : l0_3.length ≤ c0_3) (hr1_3 : Kd.C Kd.string w A1_3 l1_3.length l1_3) (hc1_3 : l1_3.length ≤ c1_3) (h : impl_compareVer.f k a0_0 a0_1 a0_2 l0_3 a1_0 a1_1 a1_2 l1_3 = some r) :
  Calls Tryd.prog 18 #[.agg #[.int .i64 a0_0, .int .i64 a0_1, .int .i64 a0_2, .slice A0_3 l0_3.length c0_3], .agg #[.int .i64 a1_0, .int .i64 a1_1, .int .i64 a1_2, .slice A1_3 l1_3.length c1_3]] w fun e w' => e = .returned (.int .i64 r) ∧ Below w.heap.size w w' := by
 have hu26 := Tryd.underlying26
 have HR0_3 := Aside0.mk hr0_3
 have HC0_3 := Aside0.mk hc0_3
 clear hr0_3 hc0_3
 have HR1_3 := Aside0.mk hr1_3
 have HC1_3 := Aside0.mk hc1_3
 clear hr1_3 hc1_3
 have HB := zA (Below.refl w.heap.size w)
 have H : ((cmp_Compare_int.f k a0_0 a1_0).bind fun t370 => ((cmp_Compare_int.f k a0_1 a1_1).bind fun t371 => ((cmp_Compare_int.f k a0_2 a1_2).bind fun t372 => ((cmp_Or_int.f k (([t370, t371, t372] : List Int))).bind fun t376 => (if t376 = 0 then (impl_compareVer.j0 k a0_0 a0_1 a0_2 l0_3 a1_0 a1_1 a1_2 l1_3) else (some t376)))))) = some r := h
 clear h
 replace H := Option.bind_eq_some_iff.mp H
 obtain ⟨t370, A30, H⟩ := H
 try dsimp only at H
 have A3 := Aside0.mk A30
 clear A30
 replace H := Option.bind_eq_some_iff.mp H
 obtain ⟨t371, A40, H⟩ := H
 try dsimp only at H
 have A4 := Aside0.mk A40
 clear A40
 replace H := Option.bind_eq_some_iff.mp H
 obtain ⟨t372, A50, H⟩ := H
 try dsimp only at H
 have A5 := Aside0.mk A50
 clear A50
 obtain ⟨y373, hy373⟩ : ∃ y_ : List Int, y_ = (([t370, t371, t372] : List Int)) := ⟨_, rfl⟩
 replace H : ((cmp_Or_int.f k y373).bind fun t376 => (if t376 = 0 then (impl_compareVer.j0 k a0_0 a0_1 a0_2 l0_3 a1_0 a1_1 a1_2 l1_3) else (some t376))) = some r := by first | (rw [hy373]; with_reducible exact H) | (have H2_ := (Option.bind_some _ _).symm.trans H; rw [hy373]; with_reducible exact H2_) | (have H2_ := (Option.bind_some _ _).symm.trans H; with_reducible exact H2_) | with_reducible exact H | (rw [hy373]; exact H) | exact H
 have Ny373 := Aside0.mk hy373
 clear hy373
 replace H := Option.bind_eq_some_iff.mp H
 obtain ⟨t376, A60, H⟩ := H
 try dsimp only at H
 have A6 := Aside0.mk A60
 clear A60
 have HC7 := Aside0.mk H
 clear H
 go_enter Tryd.func18, Tryd.ntmps18
 try go_wp2_with (first | ((with_reducible refine zd 2 ?_); refine ze 2 26 #[.int .i64 a0_0, .int .i64 a0_1, .int .i64 a0_2, .slice A0_3 l0_3.length c0_3] ?_; intro gb368 hg w8 hbox hb; have BK368 := zA (hbox); have GW368 := zi HB hg; have GE368 := zi HB hg; replace HB := zA (below_step (zB) hb); clear hb hbox hg) | ((with_reducible refine zd 3 ?_); refine ze 3 26 #[.int .i64 a1_0, .int .i64 a1_1, .int .i64 a1_2, .slice A1_3 l1_3.length c1_3] ?_; intro gb369 hg w9 hbox hb; have BK369 := zA (hbox); have GW369 := zi HB hg; have GE369 := zi HB hg; replace HB := zh HB hb; have NB368_369 := zA (zL hg (zK BK368.out)); have NB369_368 := zA (zJ hg (zK BK368.out)); replace BK368 := zb BK368 hb; clear hb hbox hg))
 replace BK368 := zA (blk_drew BK368.out)
 replace BK369 := zA (blk_drew BK369.out)
 replace HB := zA (below_drew1 HB.out)
 refine start_ (n := 18) (S := fun w' => w'.cell? ⟨gb368, 0, none⟩ = some (.int .i64 a0_0) ∧ w'.cell? ⟨gb368, 1, none⟩ = some (.int .i64 a0_1) ∧ w'.cell? ⟨gb368, 2, none⟩ = some (.int .i64 a0_2) ∧ w'.cell? ⟨gb368, 3, none⟩ = some (.slice A0_3 l0_3.length c0_3) ∧ w'.cell? ⟨gb369, 0, none⟩ = some (.int .i64 a1_0) ∧ w'.cell? ⟨gb369, 1, none⟩ = some (.int .i64 a1_1) ∧ w'.cell? ⟨gb369, 2, none⟩ = some (.int .i64 a1_2) ∧ w'.cell? ⟨gb369, 3, none⟩ = some (.slice A1_3 l1_3.length c1_3)) (ds := []) (Array.replicate 18 false) (by kernel_rfl) rfl rfl ⟨(blk_cell BK368.out 0).trans rfl, (blk_cell BK368.out 1).trans rfl, (blk_cell BK368.out 2).trans rfl, (blk_cell BK368.out 3).trans rfl, (blk_cell BK369.out 0).trans rfl, (blk_cell BK369.out 1).trans rfl, (blk_cell BK369.out 2).trans rfl, (blk_cell BK369.out 3).trans rfl⟩ (fun hHeld => ?_); refine with_tabW impl_compareVer.tab1 impl_compareVer.bits1 (fun HT_ HW_ => ?_)
 generalize w9.drew = w10 at BK368 BK369 HB hHeld ⊢
 refine zp 0 6 ?_
 refine zp 2 8 ?_
 refine zp 5 11 ?_
 refine zp 7 13 ?_
 refine zp 10 16 ?_
 refine zp 12 18 ?_
 refine zt 1 7 ?_
 refine zt 3 9 ?_
 refine zt 6 12 ?_
 refine zt 8 14 ?_
 refine zt 11 17 ?_
 refine zt 13 19 ?_
 refine zo 4 (some 10) fun K hK => ?_
 refine goes_ Tryd.func34 (by kernel_rfl) rfl #[.int .i64 a0_0, .int .i64 a1_0] (by rfl) rfl rfl zM ?_
 with_reducible refine (cmp_Compare_int.calls k a0_0 a1_0 t370 _ A3.out).mono ?_
 rintro e w' ⟨rfl, ⟨nd, rfl⟩⟩
 refine ⟨_, rfl, ?_⟩
 refine hK.out _ _ ⟨(blk_cell BK368.out 0).trans rfl, (blk_cell BK368.out 1).trans rfl, (blk_cell BK368.out 2).trans rfl, (blk_cell BK368.out 3).trans rfl, (blk_cell BK369.out 0).trans rfl, (blk_cell BK369.out 1).trans rfl, (blk_cell BK369.out 2).trans rfl, (blk_cell BK369.out 3).trans rfl⟩ (fun hHeld => ?_)
 clear hK K
 refine zn ?_
 refine zo 9 (some 15) fun K hK => ?_
 refine goes_ Tryd.func34 (by kernel_rfl) rfl #[.int .i64 a0_1, .int .i64 a1_1] (by rfl) rfl rfl zM ?_
 with_reducible refine (cmp_Compare_int.calls k a0_1 a1_1 t371 _ A4.out).mono ?_
 rintro e w' ⟨rfl, ⟨nd, rfl⟩⟩
 refine ⟨_, rfl, ?_⟩
 refine hK.out _ _ ⟨(blk_cell BK368.out 0).trans rfl, (blk_cell BK368.out 1).trans rfl, (blk_cell BK368.out 2).trans rfl, (blk_cell BK368.out 3).trans rfl, (blk_cell BK369.out 0).trans rfl, (blk_cell BK369.out 1).trans rfl, (blk_cell BK369.out 2).trans rfl, (blk_cell BK369.out 3).trans rfl⟩ (fun hHeld => ?_)
 clear hK K
 refine zn ?_
 refine zo 14 (some 20) fun K hK => ?_
 refine goes_ Tryd.func34 (by kernel_rfl) rfl #[.int .i64 a0_2, .int .i64 a1_2] (by rfl) rfl rfl zM ?_
 with_reducible refine (cmp_Compare_int.calls k a0_2 a1_2 t372 _ A5.out).mono ?_
 rintro e w' ⟨rfl, ⟨nd, rfl⟩⟩
 refine ⟨_, rfl, ?_⟩
 refine hK.out _ _ ⟨(blk_cell BK368.out 0).trans rfl, (blk_cell BK368.out 1).trans rfl, (blk_cell BK368.out 2).trans rfl, (blk_cell BK368.out 3).trans rfl, (blk_cell BK369.out 0).trans rfl, (blk_cell BK369.out 1).trans rfl, (blk_cell BK369.out 2).trans rfl, (blk_cell BK369.out 3).trans rfl⟩ (fun hHeld => ?_)
 clear hK K
 refine zn ?_
 refine zo 15 (some 21) fun K hK => ?_
 refine Kd.R_lit_step (Kd.int .i64) _ 3 ?hg (N := 21) ?hd (xs := ([t370, t371, t372] : List Int)) (inner := [.int .i64 t370, .int .i64 t371, .int .i64 t372]) (ok := fun _ => True) (okp := fun _ => True) ?hr ?hp (fun _ hk => hk) trivial (Below.refl _ _) (Nat.le_refl _) (by simp) ?_; (case hd => rfl); (case hg => rfl); (case hr => first | (go_simp; done) | (go_simp; rfl)); (case hp => exact (Reps.one (show Kd.M (Kd.int .i64) _ _ _ t370 [.int .i64 t370] from rfl) (Reps.one (show Kd.M (Kd.int .i64) _ _ _ t371 [.int .i64 t371] from rfl) (Reps.one (show Kd.M (Kd.int .i64) _ _ _ t372 [.int .i64 t372] from rfl) (Reps.none _ _)))))
 intro v374 w11 ho12 hb hg_ hnew_
 clear hg_ hnew_
 (first | rw [← Ny373.out] at ho12 | (simp only [Int.reduceToNat] at ho12; rw [← Ny373.out] at ho12))
 have HO375 := zA (Kd.R_lower ho12 (below_size (zW HB.out)))
 replace BK368 := zb BK368 hb
 replace BK369 := zb BK369 hb
 replace HB := zh HB hb
 clear hb ho12
 obtain ⟨Ao13, co13, eo13⟩ := Kd.R_slice HO375.out
 (first | subst eo13 | (injection eo13 with f1_ f2_ f3_; have f4_ := f1_.symm; have f5_ := f3_.symm; clear f1_ f2_ f3_; subst f4_; subst f5_))
 refine hK.out _ _ ⟨(blk_cell BK368.out 0).trans rfl, (blk_cell BK368.out 1).trans rfl, (blk_cell BK368.out 2).trans rfl, (blk_cell BK368.out 3).trans rfl, (blk_cell BK369.out 0).trans rfl, (blk_cell BK369.out 1).trans rfl, (blk_cell BK369.out 2).trans rfl, (blk_cell BK369.out 3).trans rfl⟩ (fun hHeld => ?_)
 clear hK K
 refine zn ?_
 refine zo 16 (some 22) fun K hK => ?_
 refine goes_ Tryd.func33 (by kernel_rfl) rfl #[.slice Ao13 y373.length co13] (by rfl) rfl rfl zM ?_
 with_reducible refine (cmp_Or_int.calls k _ _ y373 t376 _ ?side1 ?side2 A6.out).mono ?_
 (case side1 => repeat (first | exact (Kd.R_reads' HO375.out).2.2 | (with_reducible refine Kd.C_alloc ?_ _) | (with_reducible refine Kd.C_drewN ?_ _) | (with_reducible refine Kd.C_drew ?_)))
 (case side2 => exact (Kd.R_reads' HO375.out).2.1)
 rintro e w' ⟨rfl, ⟨nd, rfl⟩⟩
 refine ⟨_, rfl, ?_⟩
 refine hK.out _ _ ⟨(blk_cell BK368.out 0).trans rfl, (blk_cell BK368.out 1).trans rfl, (blk_cell BK368.out 2).trans rfl, (blk_cell BK368.out 3).trans rfl, (blk_cell BK369.out 0).trans rfl, (blk_cell BK369.out 1).trans rfl, (blk_cell BK369.out 2).trans rfl, (blk_cell BK369.out 3).trans rfl⟩ (fun hHeld => ?_)
 clear hK K
 refine zn ?_
 refine zp 17 5 ?_
 refine done_ (done_of HT_.out (by kernel_rfl)) ?_
 go_upto_if 24 with (fail)
 go_cut [] (fun wc => ∃ (kq : Nat), Aside0 (impl_compareVer.j0 kq a0_0 a0_1 a0_2 l0_3 a1_0 a1_1 a1_2 l1_3 = some r) ∧ Aside0 (kq ≤ k) ∧ Aside0 (wc.heap[gb368]? = some (.cells #[.int .i64 a0_0, .int .i64 a0_1, .int .i64 a0_2, (.slice A0_3 l0_3.length c0_3)] 26 (0, 0))) ∧ Aside0 (wc.heap[gb369]? = some (.cells #[.int .i64 a1_0, .int .i64 a1_1, .int .i64 a1_2, (.slice A1_3 l1_3.length c1_3)] 26 (0, 0))) ∧ Aside0 (Below w.heap.size w wc))
 case first =>
  have H := HC7.out
  clear HC7
  by_cases c14 : t376 = 0
  ·rw [if_pos c14] at H
   have c14b0 : (t376 == 0) = true := beq_iff_eq.mpr c14
   have c14b1 : (t376 != 0) = false := bne_eq_false_iff_eq.mpr c14
   clear c14
   (first | rw [c14b0] | (simp only [i64_w, i32_w]; rw [c14b0]) | skip)
   have H' := Aside0.mk H
   clear H
   go_wp2
   go_meet
   case rel => exact ⟨_, (by first | exact H' | (subst_vars; exact H')), ⟨by first | omega | exact Nat.le_refl _⟩, ⟨zK BK368.out⟩, ⟨zK BK369.out⟩, ⟨zW HB.out⟩⟩
  ·rw [if_neg c14] at H
   have c14b0 : (t376 == 0) = false := beq_eq_false_iff_ne.mpr c14
   have c14b1 : (t376 != 0) = true := bne_iff_ne.mpr c14
   (first | rw [c14b0] | (simp only [i64_w, i32_w]; rw [c14b0]) | skip)
   obtain rfl := Option.some.inj H
   go_wp2
   go_ret
   exact ⟨zE, zW HB.out⟩
 case rest =>
  clear HC7
  try clear c1
  try clear p2
  try clear c3
  try clear c14
  try clear c14b0
  try clear c14b1
  obtain ⟨kq, HA, HJ6, BK368, BK369, HB⟩ := hcut
  cases kq with
  | zero => exact absurd HA.out (by simp [impl_compareVer.j0])
  | succ kj6 =>
   have H := HA.out
   clear HA
   simp only [impl_compareVer.j0] at H
   by_cases c15 : (((l0_3.length : Int) == 0) != ((l1_3.length : Int) == 0)) = true
   ·rw [if_pos c15] at H
    have c15b0 : (((l0_3.length : Int) == 0) != ((l1_3.length : Int) == 0)) = true := c15
    (try (have c15b1 : decide (((l0_3.length : Int) == 0) = ((l1_3.length : Int) == 0)) = false := by simpa using c15))
    (try (have c15b2 : (((l0_3.length : Int) == 0) == ((l1_3.length : Int) == 0)) = false := by simpa using c15))
    (try (have c15b3 : ¬ (((l0_3.length : Int) == 0) = ((l1_3.length : Int) == 0)) := by simpa using c15))
    clear c15
    by_cases c16 : (l0_3.length : Int) > 0
    ·rw [if_pos c16] at H
     have c16b0 : decide (0 < (l0_3.length : Int)) = true := decide_eq_true c16
     have c16b1 : decide (0 < l0_3.length) = true := decide_eq_true (by omega)
     clear c16
     obtain rfl := Option.some.inj H
     have hnb17 := NB368_369.out
     have hnc17 := NB369_368.out
     obtain ⟨hcz18_0, hcz18_1, hcz18_2, hcz18_3, hfz18_0, hfz18_1, hfz18_2, hfz18_3⟩ := ze4 BK368.out
     obtain ⟨hcz19_0, hcz19_1, hcz19_2, hcz19_3, hfz19_0, hfz19_1, hfz19_2, hfz19_3⟩ := ze4 BK369.out
     go_wp2
     go_ret
     exact ⟨zE, zW HB.out⟩
    ·rw [if_neg c16] at H
     have c16b0 : decide (0 < (l0_3.length : Int)) = false := decide_eq_false c16
     have c16b1 : decide (0 < l0_3.length) = false := decide_eq_false (by omega)
     clear c16
     obtain rfl := Option.some.inj H
     have hnb20 := NB368_369.out
     have hnc20 := NB369_368.out
     obtain ⟨hcz21_0, hcz21_1, hcz21_2, hcz21_3, hfz21_0, hfz21_1, hfz21_2, hfz21_3⟩ := ze4 BK368.out
     obtain ⟨hcz22_0, hcz22_1, hcz22_2, hcz22_3, hfz22_0, hfz22_1, hfz22_2, hfz22_3⟩ := ze4 BK369.out
     go_wp2
     go_ret
     exact ⟨zE, zW HB.out⟩
   ·rw [if_neg c15] at H
    have c15b0 : (((l0_3.length : Int) == 0) != ((l1_3.length : Int) == 0)) = false := by simpa using c15
    (try (have c15b1 : decide (((l0_3.length : Int) == 0) = ((l1_3.length : Int) == 0)) = true := by simpa using c15))
    (try (have c15b2 : (((l0_3.length : Int) == 0) == ((l1_3.length : Int) == 0)) = true := by simpa using c15))
    clear c15
    replace H := Option.bind_eq_some_iff.mp H
    obtain ⟨t377, A230, H⟩ := H
    try dsimp only at H
    have A23 := Aside0.mk A230
    clear A230
    obtain rfl := Option.some.inj H
    have hnb24 := NB368_369.out
    have hnc24 := NB369_368.out
    obtain ⟨hcz25_0, hcz25_1, hcz25_2, hcz25_3, hfz25_0, hfz25_1, hfz25_2, hfz25_3⟩ := ze4 BK368.out
    obtain ⟨hcz26_0, hcz26_1, hcz26_2, hcz26_3, hfz26_0, hfz26_1, hfz26_2, hfz26_3⟩ := ze4 BK369.out
    go_wp2_with (first | ((with_reducible refine zq 35 ?_); refine zg (some 43) Tryd.func35 #[.slice A0_3 l0_3.length c0_3, .slice A1_3 l1_3.length c1_3, .func (.func 36) #[] #[]] ?_; (with_reducible refine (slices_CompareFunc_string_string_string_string.calls kj6 _ _ l0_3 _ _ l1_3 t377 _ ?side1 ?side2 ?side3 ?side4 A23.out).mono ?_); (case side1 => exact zC (Kd.C_below HR0_3.out HB.out)); (case side2 => exact HC0_3.out); (case side3 => exact zC (Kd.C_below HR1_3.out HB.out)); (case side4 => exact HC1_3.out); rintro e w27 ⟨rfl, hb⟩; refine ⟨_, rfl, ?_⟩; replace BK368 := zb BK368 hb; replace BK369 := zb BK369 hb; replace HB := zh HB hb; (try clear hb)))
    go_ret
    exact ⟨zE, zW HB.out⟩
/-! ### impl_CmpOk: function 32 -/
def impl_CmpOk.f (k : Nat) (a0_0 : Int) (a0_1 : Int) (a0_2 : Int) (a0_3 : Int) (l0_4 : List ByteArray) (a1_0 : Int) (a1_1 : Int) (a1_2 : Int) (l1_3 : List ByteArray) : Option (Bool) := (impl_compareVer.f k a1_0 a1_1 a1_2 l1_3 a0_1 a0_2 a0_3 l0_4).bind fun t380 => (if a0_0 = 0 then (some (t380 == 0)) else (if a0_0 = 1 then (some (decide (t380 < 0))) else (if a0_0 = 2 then (some (decide (t380 ≤ 0))) else (if a0_0 = 3 then (some (decide (t380 > 0))) else (if a0_0 = 4 then (some (decide (t380 ≥ 0))) else (some false))))))
theorem impl_CmpOk.calls (k : Nat) (a0_0 : Int) (a0_1 : Int) (a0_2 : Int) (a0_3 : Int) (A0_4 : Option Addr) (c0_4 : Nat) (l0_4 : List ByteArray) (a1_0 : Int) (a1_1 : Int) (a1_2 : Int) (A1_3 : Option Addr) (c1_3 : Nat) (l1_3 : List ByteArray) (r : Bool) (w : World) (hr0_4 : Kd.C Kd.string w A0_4 l0_4.length l0_4) (hc0_4 : l0_4.length ≤ c0_4) (hr1_3 : Kd.C Kd.string w A1_3 l1_3.length l1_3) (hc1_3 : l1_3.length ≤ c1_3) (h : impl_CmpOk.f k a0_0 a0_1 a0_2 a0_3 l0_4 a1_0 a1_1 a1_2 l1_3 = some r) :
  Calls Tryd.prog 32 #[.agg #[.int .i64 a0_0, .int .i64 a0_1, .int .i64 a0_2, .int .i64 a0_3, .slice A0_4 l0_4.length c0_4], .agg #[.int .i64 a1_0, .int .i64 a1_1, .int .i64 a1_2, .slice A1_3 l1_3.length c1_3]] w fun e w' => e = .returned (.bool r) ∧ Below w.heap.size w w' := by
 have hu57 := Tryd.underlying57
 have hu26 := Tryd.underlying26
 have HR0_4 := Aside0.mk hr0_4
 have HC0_4 := Aside0.mk hc0_4
 clear hr0_4 hc0_4
 have HR1_3 := Aside0.mk hr1_3
 have HC1_3 := Aside0.mk hc1_3
 clear hr1_3 hc1_3
 have HB := zA (Below.refl w.heap.size w)
 have H : ((impl_compareVer.f k a1_0 a1_1 a1_2 l1_3 a0_1 a0_2 a0_3 l0_4).bind fun t380 => (if a0_0 = 0 then (some (t380 == 0)) else (if a0_0 = 1 then (some (decide (t380 < 0))) else (if a0_0 = 2 then (some (decide (t380 ≤ 0))) else (if a0_0 = 3 then (some (decide (t380 > 0))) else (if a0_0 = 4 then (some (decide (t380 ≥ 0))) else (some false))))))) = some r := h
 clear h
 replace H := Option.bind_eq_some_iff.mp H
 obtain ⟨t380, A30, H⟩ := H
 try dsimp only at H
 have A3 := Aside0.mk A30
 clear A30
 by_cases c4 : a0_0 = 0
 ·rw [if_pos c4] at H
  have c4b0 : (a0_0 == 0) = true := beq_iff_eq.mpr c4
  have c4b1 : (a0_0 != 0) = false := bne_eq_false_iff_eq.mpr c4
  clear c4
  obtain rfl := Option.some.inj H
  go_enter Tryd.func32, Tryd.ntmps32
  go_wp2_with (first | ((with_reducible refine zd 2 ?_); refine ze 2 57 #[.int .i64 a0_0, .int .i64 a0_1, .int .i64 a0_2, .int .i64 a0_3, .slice A0_4 l0_4.length c0_4] ?_; intro gb378 hg w5 hbox hb; have BK378 := zA (hbox); have GW378 := zi HB hg; have GE378 := zi HB hg; replace HB := zA (below_step (zB) hb); clear hb hbox hg) | ((with_reducible refine zd 3 ?_); refine ze 3 26 #[.int .i64 a1_0, .int .i64 a1_1, .int .i64 a1_2, .slice A1_3 l1_3.length c1_3] ?_; intro gb379 hg w6 hbox hb; have BK379 := zA (hbox); have GW379 := zi HB hg; have GE379 := zi HB hg; replace HB := zh HB hb; have NB378_379 := zA (zL hg (zK BK378.out)); have NB379_378 := zA (zJ hg (zK BK378.out)); replace BK378 := zb BK378 hb; clear hb hbox hg; have hnb7 := NB379_378.out; have hnc7 := NB378_379.out; obtain ⟨hcz8_0, hcz8_1, hcz8_2, hcz8_3, hfz8_0, hfz8_1, hfz8_2, hfz8_3⟩ := ze4 BK379.out; obtain ⟨hcz9_0, hcz9_1, hcz9_2, hcz9_3, hcz9_4, hfz9_0, hfz9_1, hfz9_2, hfz9_3, hfz9_4⟩ := ze5 BK378.out) | ((with_reducible refine zq 18 ?_); refine zg (some 9) Tryd.func18 #[.agg #[.int .i64 a1_0, .int .i64 a1_1, .int .i64 a1_2, .slice A1_3 l1_3.length c1_3], .agg #[.int .i64 a0_1, .int .i64 a0_2, .int .i64 a0_3, .slice A0_4 l0_4.length c0_4]] ?_; (with_reducible refine (impl_compareVer.calls k a1_0 a1_1 a1_2 _ _ l1_3 a0_1 a0_2 a0_3 _ _ l0_4 t380 _ ?side1 ?side2 ?side3 ?side4 A3.out).mono ?_); (case side1 => exact zC (Kd.C_below HR1_3.out HB.out)); (case side2 => exact HC1_3.out); (case side3 => exact zC (Kd.C_below HR0_4.out HB.out)); (case side4 => exact HC0_4.out); rintro e w10 ⟨rfl, hb⟩; refine ⟨_, rfl, ?_⟩; replace BK378 := zb BK378 hb; replace BK379 := zb BK379 hb; replace HB := zh HB hb; (try clear hb); obtain ⟨hcz11_0, hcz11_1, hcz11_2, hcz11_3, hcz11_4, hfz11_0, hfz11_1, hfz11_2, hfz11_3, hfz11_4⟩ := ze5 BK378.out))
  go_ret
  exact ⟨zE, zW HB.out⟩
 ·rw [if_neg c4] at H
  have c4b0 : (a0_0 == 0) = false := beq_eq_false_iff_ne.mpr c4
  have c4b1 : (a0_0 != 0) = true := bne_iff_ne.mpr c4
  by_cases c12 : a0_0 = 1
  ·rw [if_pos c12] at H
   have c12b0 : (a0_0 == 1) = true := beq_iff_eq.mpr c12
   have c12b1 : (a0_0 != 1) = false := bne_eq_false_iff_eq.mpr c12
   clear c12
   obtain rfl := Option.some.inj H
   go_enter Tryd.func32, Tryd.ntmps32
   go_wp2_with (first | ((with_reducible refine zd 2 ?_); refine ze 2 57 #[.int .i64 a0_0, .int .i64 a0_1, .int .i64 a0_2, .int .i64 a0_3, .slice A0_4 l0_4.length c0_4] ?_; intro gb378 hg w13 hbox hb; have BK378 := zA (hbox); have GW378 := zi HB hg; have GE378 := zi HB hg; replace HB := zA (below_step (zB) hb); clear hb hbox hg) | ((with_reducible refine zd 3 ?_); refine ze 3 26 #[.int .i64 a1_0, .int .i64 a1_1, .int .i64 a1_2, .slice A1_3 l1_3.length c1_3] ?_; intro gb379 hg w14 hbox hb; have BK379 := zA (hbox); have GW379 := zi HB hg; have GE379 := zi HB hg; replace HB := zh HB hb; have NB378_379 := zA (zL hg (zK BK378.out)); have NB379_378 := zA (zJ hg (zK BK378.out)); replace BK378 := zb BK378 hb; clear hb hbox hg; have hnb15 := NB379_378.out; have hnc15 := NB378_379.out; obtain ⟨hcz16_0, hcz16_1, hcz16_2, hcz16_3, hfz16_0, hfz16_1, hfz16_2, hfz16_3⟩ := ze4 BK379.out; obtain ⟨hcz17_0, hcz17_1, hcz17_2, hcz17_3, hcz17_4, hfz17_0, hfz17_1, hfz17_2, hfz17_3, hfz17_4⟩ := ze5 BK378.out) | ((with_reducible refine zq 18 ?_); refine zg (some 9) Tryd.func18 #[.agg #[.int .i64 a1_0, .int .i64 a1_1, .int .i64 a1_2, .slice A1_3 l1_3.length c1_3], .agg #[.int .i64 a0_1, .int .i64 a0_2, .int .i64 a0_3, .slice A0_4 l0_4.length c0_4]] ?_; (with_reducible refine (impl_compareVer.calls k a1_0 a1_1 a1_2 _ _ l1_3 a0_1 a0_2 a0_3 _ _ l0_4 t380 _ ?side1 ?side2 ?side3 ?side4 A3.out).mono ?_); (case side1 => exact zC (Kd.C_below HR1_3.out HB.out)); (case side2 => exact HC1_3.out); (case side3 => exact zC (Kd.C_below HR0_4.out HB.out)); (case side4 => exact HC0_4.out); rintro e w18 ⟨rfl, hb⟩; refine ⟨_, rfl, ?_⟩; replace BK378 := zb BK378 hb; replace BK379 := zb BK379 hb; replace HB := zh HB hb; (try clear hb); obtain ⟨hcz19_0, hcz19_1, hcz19_2, hcz19_3, hcz19_4, hfz19_0, hfz19_1, hfz19_2, hfz19_3, hfz19_4⟩ := ze5 BK378.out))
   go_ret
   exact ⟨zE, zW HB.out⟩
  ·rw [if_neg c12] at H
   have c12b0 : (a0_0 == 1) = false := beq_eq_false_iff_ne.mpr c12
   have c12b1 : (a0_0 != 1) = true := bne_iff_ne.mpr c12
   by_cases c20 : a0_0 = 2
   ·rw [if_pos c20] at H
    have c20b0 : (a0_0 == 2) = true := beq_iff_eq.mpr c20
    have c20b1 : (a0_0 != 2) = false := bne_eq_false_iff_eq.mpr c20
    clear c20
    obtain rfl := Option.some.inj H
    go_enter Tryd.func32, Tryd.ntmps32
    go_wp2_with (first | ((with_reducible refine zd 2 ?_); refine ze 2 57 #[.int .i64 a0_0, .int .i64 a0_1, .int .i64 a0_2, .int .i64 a0_3, .slice A0_4 l0_4.length c0_4] ?_; intro gb378 hg w21 hbox hb; have BK378 := zA (hbox); have GW378 := zi HB hg; have GE378 := zi HB hg; replace HB := zA (below_step (zB) hb); clear hb hbox hg) | ((with_reducible refine zd 3 ?_); refine ze 3 26 #[.int .i64 a1_0, .int .i64 a1_1, .int .i64 a1_2, .slice A1_3 l1_3.length c1_3] ?_; intro gb379 hg w22 hbox hb; have BK379 := zA (hbox); have GW379 := zi HB hg; have GE379 := zi HB hg; replace HB := zh HB hb; have NB378_379 := zA (zL hg (zK BK378.out)); have NB379_378 := zA (zJ hg (zK BK378.out)); replace BK378 := zb BK378 hb; clear hb hbox hg; have hnb23 := NB379_378.out; have hnc23 := NB378_379.out; obtain ⟨hcz24_0, hcz24_1, hcz24_2, hcz24_3, hfz24_0, hfz24_1, hfz24_2, hfz24_3⟩ := ze4 BK379.out; obtain ⟨hcz25_0, hcz25_1, hcz25_2, hcz25_3, hcz25_4, hfz25_0, hfz25_1, hfz25_2, hfz25_3, hfz25_4⟩ := ze5 BK378.out) | ((with_reducible refine zq 18 ?_); refine zg (some 9) Tryd.func18 #[.agg #[.int .i64 a1_0, .int .i64 a1_1, .int .i64 a1_2, .slice A1_3 l1_3.length c1_3], .agg #[.int .i64 a0_1, .int .i64 a0_2, .int .i64 a0_3, .slice A0_4 l0_4.length c0_4]] ?_; (with_reducible refine (impl_compareVer.calls k a1_0 a1_1 a1_2 _ _ l1_3 a0_1 a0_2 a0_3 _ _ l0_4 t380 _ ?side1 ?side2 ?side3 ?side4 A3.out).mono ?_); (case side1 => exact zC (Kd.C_below HR1_3.out HB.out)); (case side2 => exact HC1_3.out); (case side3 => exact zC (Kd.C_below HR0_4.out HB.out)); (case side4 => exact HC0_4.out); rintro e w26 ⟨rfl, hb⟩; refine ⟨_, rfl, ?_⟩; replace BK378 := zb BK378 hb; replace BK379 := zb BK379 hb; replace HB := zh HB hb; (try clear hb); obtain ⟨hcz27_0, hcz27_1, hcz27_2, hcz27_3, hcz27_4, hfz27_0, hfz27_1, hfz27_2, hfz27_3, hfz27_4⟩ := ze5 BK378.out))
    go_ret
    exact ⟨zE, zW HB.out⟩
   ·rw [if_neg c20] at H
    have c20b0 : (a0_0 == 2) = false := beq_eq_false_iff_ne.mpr c20
    have c20b1 : (a0_0 != 2) = true := bne_iff_ne.mpr c20
    by_cases c28 : a0_0 = 3
    ·rw [if_pos c28] at H
     have c28b0 : (a0_0 == 3) = true := beq_iff_eq.mpr c28
     have c28b1 : (a0_0 != 3) = false := bne_eq_false_iff_eq.mpr c28
     clear c28
     obtain rfl := Option.some.inj H
     go_enter Tryd.func32, Tryd.ntmps32
     go_wp2_with (first | ((with_reducible refine zd 2 ?_); refine ze 2 57 #[.int .i64 a0_0, .int .i64 a0_1, .int .i64 a0_2, .int .i64 a0_3, .slice A0_4 l0_4.length c0_4] ?_; intro gb378 hg w29 hbox hb; have BK378 := zA (hbox); have GW378 := zi HB hg; have GE378 := zi HB hg; replace HB := zA (below_step (zB) hb); clear hb hbox hg) | ((with_reducible refine zd 3 ?_); refine ze 3 26 #[.int .i64 a1_0, .int .i64 a1_1, .int .i64 a1_2, .slice A1_3 l1_3.length c1_3] ?_; intro gb379 hg w30 hbox hb; have BK379 := zA (hbox); have GW379 := zi HB hg; have GE379 := zi HB hg; replace HB := zh HB hb; have NB378_379 := zA (zL hg (zK BK378.out)); have NB379_378 := zA (zJ hg (zK BK378.out)); replace BK378 := zb BK378 hb; clear hb hbox hg; have hnb31 := NB379_378.out; have hnc31 := NB378_379.out; obtain ⟨hcz32_0, hcz32_1, hcz32_2, hcz32_3, hfz32_0, hfz32_1, hfz32_2, hfz32_3⟩ := ze4 BK379.out; obtain ⟨hcz33_0, hcz33_1, hcz33_2, hcz33_3, hcz33_4, hfz33_0, hfz33_1, hfz33_2, hfz33_3, hfz33_4⟩ := ze5 BK378.out) | ((with_reducible refine zq 18 ?_); refine zg (some 9) Tryd.func18 #[.agg #[.int .i64 a1_0, .int .i64 a1_1, .int .i64 a1_2, .slice A1_3 l1_3.length c1_3], .agg #[.int .i64 a0_1, .int .i64 a0_2, .int .i64 a0_3, .slice A0_4 l0_4.length c0_4]] ?_; (with_reducible refine (impl_compareVer.calls k a1_0 a1_1 a1_2 _ _ l1_3 a0_1 a0_2 a0_3 _ _ l0_4 t380 _ ?side1 ?side2 ?side3 ?side4 A3.out).mono ?_); (case side1 => exact zC (Kd.C_below HR1_3.out HB.out)); (case side2 => exact HC1_3.out); (case side3 => exact zC (Kd.C_below HR0_4.out HB.out)); (case side4 => exact HC0_4.out); rintro e w34 ⟨rfl, hb⟩; refine ⟨_, rfl, ?_⟩; replace BK378 := zb BK378 hb; replace BK379 := zb BK379 hb; replace HB := zh HB hb; (try clear hb); obtain ⟨hcz35_0, hcz35_1, hcz35_2, hcz35_3, hcz35_4, hfz35_0, hfz35_1, hfz35_2, hfz35_3, hfz35_4⟩ := ze5 BK378.out))
     go_ret
     exact ⟨zE, zW HB.out⟩
    ·rw [if_neg c28] at H
     have c28b0 : (a0_0 == 3) = false := beq_eq_false_iff_ne.mpr c28
     have c28b1 : (a0_0 != 3) = true := bne_iff_ne.mpr c28
     by_cases c36 : a0_0 = 4
     ·rw [if_pos c36] at H
      have c36b0 : (a0_0 == 4) = true := beq_iff_eq.mpr c36
      have c36b1 : (a0_0 != 4) = false := bne_eq_false_iff_eq.mpr c36
      clear c36
      obtain rfl := Option.some.inj H
      go_enter Tryd.func32, Tryd.ntmps32
      go_wp2_with (first | ((with_reducible refine zd 2 ?_); refine ze 2 57 #[.int .i64 a0_0, .int .i64 a0_1, .int .i64 a0_2, .int .i64 a0_3, .slice A0_4 l0_4.length c0_4] ?_; intro gb378 hg w37 hbox hb; have BK378 := zA (hbox); have GW378 := zi HB hg; have GE378 := zi HB hg; replace HB := zA (below_step (zB) hb); clear hb hbox hg) | ((with_reducible refine zd 3 ?_); refine ze 3 26 #[.int .i64 a1_0, .int .i64 a1_1, .int .i64 a1_2, .slice A1_3 l1_3.length c1_3] ?_; intro gb379 hg w38 hbox hb; have BK379 := zA (hbox); have GW379 := zi HB hg; have GE379 := zi HB hg; replace HB := zh HB hb; have NB378_379 := zA (zL hg (zK BK378.out)); have NB379_378 := zA (zJ hg (zK BK378.out)); replace BK378 := zb BK378 hb; clear hb hbox hg; have hnb39 := NB379_378.out; have hnc39 := NB378_379.out; obtain ⟨hcz40_0, hcz40_1, hcz40_2, hcz40_3, hfz40_0, hfz40_1, hfz40_2, hfz40_3⟩ := ze4 BK379.out; obtain ⟨hcz41_0, hcz41_1, hcz41_2, hcz41_3, hcz41_4, hfz41_0, hfz41_1, hfz41_2, hfz41_3, hfz41_4⟩ := ze5 BK378.out) | ((with_reducible refine zq 18 ?_); refine zg (some 9) Tryd.func18 #[.agg #[.int .i64 a1_0, .int .i64 a1_1, .int .i64 a1_2, .slice A1_3 l1_3.length c1_3], .agg #[.int .i64 a0_1, .int .i64 a0_2, .int .i64 a0_3, .slice A0_4 l0_4.length c0_4]] ?_; (with_reducible refine (impl_compareVer.calls k a1_0 a1_1 a1_2 _ _ l1_3 a0_1 a0_2 a0_3 _ _ l0_4 t380 _ ?side1 ?side2 ?side3 ?side4 A3.out).mono ?_); (case side1 => exact zC (Kd.C_below HR1_3.out HB.out)); (case side2 => exact HC1_3.out); (case side3 => exact zC (Kd.C_below HR0_4.out HB.out)); (case side4 => exact HC0_4.out); rintro e w42 ⟨rfl, hb⟩; refine ⟨_, rfl, ?_⟩; replace BK378 := zb BK378 hb; replace BK379 := zb BK379 hb; replace HB := zh HB hb; (try clear hb); obtain ⟨hcz43_0, hcz43_1, hcz43_2, hcz43_3, hcz43_4, hfz43_0, hfz43_1, hfz43_2, hfz43_3, hfz43_4⟩ := ze5 BK378.out))
      go_ret
      exact ⟨zE, zW HB.out⟩
     ·rw [if_neg c36] at H
      have c36b0 : (a0_0 == 4) = false := beq_eq_false_iff_ne.mpr c36
      have c36b1 : (a0_0 != 4) = true := bne_iff_ne.mpr c36
      obtain rfl := Option.some.inj H
      go_enter Tryd.func32, Tryd.ntmps32
      go_wp2_with (first | ((with_reducible refine zd 2 ?_); refine ze 2 57 #[.int .i64 a0_0, .int .i64 a0_1, .int .i64 a0_2, .int .i64 a0_3, .slice A0_4 l0_4.length c0_4] ?_; intro gb378 hg w44 hbox hb; have BK378 := zA (hbox); have GW378 := zi HB hg; have GE378 := zi HB hg; replace HB := zA (below_step (zB) hb); clear hb hbox hg) | ((with_reducible refine zd 3 ?_); refine ze 3 26 #[.int .i64 a1_0, .int .i64 a1_1, .int .i64 a1_2, .slice A1_3 l1_3.length c1_3] ?_; intro gb379 hg w45 hbox hb; have BK379 := zA (hbox); have GW379 := zi HB hg; have GE379 := zi HB hg; replace HB := zh HB hb; have NB378_379 := zA (zL hg (zK BK378.out)); have NB379_378 := zA (zJ hg (zK BK378.out)); replace BK378 := zb BK378 hb; clear hb hbox hg; have hnb46 := NB379_378.out; have hnc46 := NB378_379.out; obtain ⟨hcz47_0, hcz47_1, hcz47_2, hcz47_3, hfz47_0, hfz47_1, hfz47_2, hfz47_3⟩ := ze4 BK379.out; obtain ⟨hcz48_0, hcz48_1, hcz48_2, hcz48_3, hcz48_4, hfz48_0, hfz48_1, hfz48_2, hfz48_3, hfz48_4⟩ := ze5 BK378.out) | ((with_reducible refine zq 18 ?_); refine zg (some 9) Tryd.func18 #[.agg #[.int .i64 a1_0, .int .i64 a1_1, .int .i64 a1_2, .slice A1_3 l1_3.length c1_3], .agg #[.int .i64 a0_1, .int .i64 a0_2, .int .i64 a0_3, .slice A0_4 l0_4.length c0_4]] ?_; (with_reducible refine (impl_compareVer.calls k a1_0 a1_1 a1_2 _ _ l1_3 a0_1 a0_2 a0_3 _ _ l0_4 t380 _ ?side1 ?side2 ?side3 ?side4 A3.out).mono ?_); (case side1 => exact zC (Kd.C_below HR1_3.out HB.out)); (case side2 => exact HC1_3.out); (case side3 => exact zC (Kd.C_below HR0_4.out HB.out)); (case side4 => exact HC0_4.out); rintro e w49 ⟨rfl, hb⟩; refine ⟨_, rfl, ?_⟩; replace BK378 := zb BK378 hb; replace BK379 := zb BK379 hb; replace HB := zh HB hb; (try clear hb); obtain ⟨hcz50_0, hcz50_1, hcz50_2, hcz50_3, hcz50_4, hfz50_0, hfz50_1, hfz50_2, hfz50_3, hfz50_4⟩ := ze5 BK378.out))
      go_ret
      exact ⟨zE, zW HB.out⟩
/-! ### impl_takes: function 17 -/
def impl_takes.l0 : Nat → Bool → List (S57) → Int → Int → Int → Int → Int → List ByteArray → Option (Bool)
 | 0, _, _, _, _, _, _, _, _ => none
 | k + 1, x5, x12, x13, x14, x382000, x382001, x382002, x382003 => if x14 < x13 then (if 0 ≤ x14 then (if x14 < (x12.length : Int) then ((impl_CmpOk.f k ((rd_T57 x12 x14).f0) ((rd_T57 x12 x14).f1.f0) ((rd_T57 x12 x14).f1.f1) ((rd_T57 x12 x14).f1.f2) ((rd_T57 x12 x14).f1.f3) x382000 x382001 x382002 x382003).bind fun t384 => (if t384 = true then (if x5 = true then (impl_takes.l0 k true x12 x13 (wrap64 (x14 + 1)) x382000 x382001 x382002 x382003) else (if (((rd_T57 x12 x14).f1.f3).length : Int) > 0 then (if ((rd_T57 x12 x14).f1.f0) = x382000 then (if ((rd_T57 x12 x14).f1.f1) = x382001 then (impl_takes.l0 k (((rd_T57 x12 x14).f1.f2) == x382002) x12 x13 (wrap64 (x14 + 1)) x382000 x382001 x382002 x382003) else (impl_takes.l0 k false x12 x13 (wrap64 (x14 + 1)) x382000 x382001 x382002 x382003)) else (impl_takes.l0 k false x12 x13 (wrap64 (x14 + 1)) x382000 x382001 x382002 x382003)) else (impl_takes.l0 k false x12 x13 (wrap64 (x14 + 1)) x382000 x382001 x382002 x382003))) else (some false))) else (none)) else (none)) else (some x5)
def impl_takes.f (k : Nat) (l0 : List (S57)) (a1_0 : Int) (a1_1 : Int) (a1_2 : Int) (l1_3 : List ByteArray) : Option (Bool) := impl_takes.l0 k ((l1_3.length : Int) == 0) l0 (l0.length : Int) 0 a1_0 a1_1 a1_2 l1_3
theorem impl_takes.calls (k : Nat) (A0 : Option Addr) (c0 : Nat) (l0 : List (S57)) (a1_0 : Int) (a1_1 : Int) (a1_2 : Int) (A1_3 : Option Addr) (c1_3 : Nat) (l1_3 : List ByteArray) (r : Bool) (w : World) (hr0 : Kd.C k57 w A0 l0.length l0) (hc0 : l0.length ≤ c0) (hr1_3 : Kd.C Kd.string w A1_3 l1_3.length l1_3) (hc1_3 : l1_3.length ≤ c1_3) (h : impl_takes.f k l0 a1_0 a1_1 a1_2 l1_3 = some r) :
  Calls Tryd.prog 17 #[.slice A0 l0.length c0, .agg #[.int .i64 a1_0, .int .i64 a1_1, .int .i64 a1_2, .slice A1_3 l1_3.length c1_3]] w fun e w' => e = .returned (.bool r) ∧ Below w.heap.size w w' := by
 have hu26 := Tryd.underlying26
 have hu57 := Tryd.underlying57
 have HR0 := Aside0.mk hr0
 have HC0 := Aside0.mk hc0
 clear hr0 hc0
 have HR1_3 := Aside0.mk hr1_3
 have HC1_3 := Aside0.mk hc1_3
 clear hr1_3 hc1_3
 have HB := zA (Below.refl w.heap.size w)
 have H : (impl_takes.l0 k ((l1_3.length : Int) == 0) l0 (l0.length : Int) 0 a1_0 a1_1 a1_2 l1_3) = some r := h
 clear h
 have H' := Aside0.mk H
 clear H
 go_enter Tryd.func17, Tryd.ntmps17
 go_wp2_with (first | ((with_reducible refine gate_dst (N := 3) rfl ?_); (try (refine gate_guard (by rfl) ?_; dsimp only)); refine box_event ?hg (N := 3) ?hd (cs := #[.int .i64 a1_0, .int .i64 a1_1, .int .i64 a1_2, .slice A1_3 l1_3.length c1_3]) (t := 26) ?hr ?_; (case hd => rfl); (case hg => rfl); (case hr => first | (go_simp; done) | (go_simp; rfl)); intro gb381 hg w3 hbox hb; have BK381 := zA (hbox); have GW381 := zi HB hg; have GE381 := zi HB hg; replace HB := zA (below_step (zB) hb); clear hb hbox hg; obtain ⟨hcz4_0, hcz4_1, hcz4_2, hcz4_3, hfz4_0, hfz4_1, hfz4_2, hfz4_3⟩ := ze4 BK381.out))
 go_loopg [5, 14] k (fun kq v5 v14 w' => ∃ (x5_1 : Bool) (x14_1 : Int), v5 = .bool x5_1 ∧ v14 = .int .i64 x14_1 ∧ Aside0 (impl_takes.l0 kq x5_1 l0 (l0.length : Int) x14_1 a1_0 a1_1 a1_2 l1_3 = some r) ∧ Aside0 (kq ≤ k) ∧ Aside0 (w'.heap[gb381]? = some (.cells #[.int .i64 a1_0, .int .i64 a1_1, .int .i64 a1_2, (.slice A1_3 l1_3.length c1_3)] 26 (0, 0))) ∧ Aside0 (Below w.heap.size w w'))
 case atStart => exact ⟨(((l1_3.length : Int) == 0)), (0), zS, zS, H', ⟨Nat.le_refl _⟩, ⟨zK BK381.out⟩, ⟨zW HB.out⟩⟩
 case round =>
  clear H'
  try clear c1
  try clear p2
  try clear hcz4_0 hcz4_1 hcz4_2 hcz4_3 hfz4_0 hfz4_1 hfz4_2 hfz4_3
  obtain ⟨x5_1, x14_1, rfl, rfl, HA, HK1, BK381, HB⟩ := hrel
  cases gk with
  | zero => exact absurd HA.out (by simp [impl_takes.l0])
  | succ k1 =>
   have H := HA.out
   clear HA
   simp only [impl_takes.l0] at H
   by_cases c5 : x14_1 < (l0.length : Int)
   ·rw [if_pos c5] at H
    have c5b0 := decide_eq_true c5
    clear c5
    by_cases c6 : 0 ≤ x14_1
    ·rw [if_pos c6] at H
     have c6b0 := decide_eq_true c6
     clear c6
     by_cases c7 : x14_1 < (l0.length : Int)
     ·rw [if_pos c7] at H
      have c7b0 := decide_eq_true c7
      clear c7
      replace H := Option.bind_eq_some_iff.mp H
      obtain ⟨t384, A80, H⟩ := H
      try dsimp only at H
      have A8 := Aside0.mk A80
      clear A80
      by_cases c9 : t384 = true
      ·subst c9
       rw [if_pos rfl] at H
       by_cases c10 : x5_1 = true
       ·subst c10
        rw [if_pos rfl] at H
        have H' := Aside0.mk H
        clear H
        have p382 : 0 ≤ (x14_1 : Int) := zD
        have q382 : x14_1 < (l0.length : Int) := zD
        obtain ⟨ad382, A382_4, c382_4, e382, hx382_0, hx382_1, hx382_2, hx382_3, hx382_4, hl382_4, hi382_4⟩ := at_T57 HR0.out x14_1 p382 q382
        cases e382
        replace hx382_0 := (HB.out.cell (World.block_lt_of_cell? w _ hx382_0)).trans hx382_0
        replace hx382_1 := (HB.out.cell (World.block_lt_of_cell? w _ hx382_1)).trans hx382_1
        replace hx382_2 := (HB.out.cell (World.block_lt_of_cell? w _ hx382_2)).trans hx382_2
        replace hx382_3 := (HB.out.cell (World.block_lt_of_cell? w _ hx382_3)).trans hx382_3
        replace hx382_4 := (HB.out.cell (World.block_lt_of_cell? w _ hx382_4)).trans hx382_4
        have HR382_4 := Aside0.mk hi382_4
        have HC382_4 := Aside0.mk hl382_4
        clear hi382_4 hl382_4
        replace p382 := eq_true p382
        replace q382 := eq_true q382
        go_wp2_with (first | ((with_reducible refine gate_dst (N := 7) rfl ?_); (try (refine gate_guard (by rfl) ?_; dsimp only)); refine box_event ?hg (N := 7) ?hd (cs := #[.int .i64 0, .int .i64 0, .int .i64 0, .int .i64 0, .slice none 0 0]) (t := 57) ?hr ?_; (case hd => rfl); (case hg => rfl); (case hr => first | (go_simp; done) | (go_simp; rfl)); intro gb383 hg w11 hbox hb; have BK383 := zA (hbox); have GW383 := zi HB hg; have GE383 := zi HB hg; replace HB := zh HB hb; have NB381_383 := zA (zL hg (zK BK381.out)); have NB383_381 := zA (zJ hg (zK BK381.out)); replace BK381 := zb BK381 hb; clear hb hbox hg; have hnb12 := NB383_381.out; have hnc12 := NB381_383.out; obtain ⟨hcz13_0, hcz13_1, hcz13_2, hcz13_3, hcz13_4, hfz13_0, hfz13_1, hfz13_2, hfz13_3, hfz13_4⟩ := ze5 BK383.out; obtain ⟨hcz14_0, hcz14_1, hcz14_2, hcz14_3, hfz14_0, hfz14_1, hfz14_2, hfz14_3⟩ := ze4 BK381.out) | ((with_reducible refine zq 32 ?_); refine zg (some 20) Tryd.func32 #[.agg #[.int .i64 ((rd_T57 l0 x14_1).f0), .int .i64 ((rd_T57 l0 x14_1).f1.f0), .int .i64 ((rd_T57 l0 x14_1).f1.f1), .int .i64 ((rd_T57 l0 x14_1).f1.f2), .slice A382_4 ((rd_T57 l0 x14_1).f1.f3).length c382_4], .agg #[.int .i64 a1_0, .int .i64 a1_1, .int .i64 a1_2, .slice A1_3 l1_3.length c1_3]] ?_; (with_reducible refine (impl_CmpOk.calls k1 ((rd_T57 l0 x14_1).f0) ((rd_T57 l0 x14_1).f1.f0) ((rd_T57 l0 x14_1).f1.f1) ((rd_T57 l0 x14_1).f1.f2) _ _ ((rd_T57 l0 x14_1).f1.f3) a1_0 a1_1 a1_2 _ _ l1_3 true _ ?side1 ?side2 ?side3 ?side4 A8.out).mono ?_); (case side1 => exact Kd.C_below HR382_4.out (zW HB.out)); (case side2 => exact HC382_4.out); (case side3 => exact Kd.C_below HR1_3.out (zW HB.out)); (case side4 => exact HC1_3.out); rintro e w15 ⟨rfl, hb⟩; refine ⟨_, rfl, ?_⟩; replace BK381 := zb BK381 hb; replace BK383 := zA (blk_below (g := gb383) (o := .cells #[.int .i64 ((rd_T57 l0 x14_1).f0), .int .i64 ((rd_T57 l0 x14_1).f1.f0), .int .i64 ((rd_T57 l0 x14_1).f1.f1), .int .i64 ((rd_T57 l0 x14_1).f1.f2), .slice A382_4 ((rd_T57 l0 x14_1).f1.f3).length c382_4] 57 (0, 0)) (by (with_reducible repeat (first | refine blk_drewN ?_ _ | refine blk_drew ?_ | refine blk_alloc ?_ _)); refine blk_put (cs := #[.int .i64 ((rd_T57 l0 x14_1).f0), .int .i64 ((rd_T57 l0 x14_1).f1.f0), .int .i64 ((rd_T57 l0 x14_1).f1.f1), .int .i64 ((rd_T57 l0 x14_1).f1.f2), .slice none 0 0]) ?_ 4 _ rfl; (with_reducible repeat (first | refine blk_drewN ?_ _ | refine blk_drew ?_ | refine blk_alloc ?_ _)); refine blk_put (cs := #[.int .i64 ((rd_T57 l0 x14_1).f0), .int .i64 ((rd_T57 l0 x14_1).f1.f0), .int .i64 ((rd_T57 l0 x14_1).f1.f1), .int .i64 0, .slice none 0 0]) ?_ 3 _ rfl; (with_reducible repeat (first | refine blk_drewN ?_ _ | refine blk_drew ?_ | refine blk_alloc ?_ _)); refine blk_put (cs := #[.int .i64 ((rd_T57 l0 x14_1).f0), .int .i64 ((rd_T57 l0 x14_1).f1.f0), .int .i64 0, .int .i64 0, .slice none 0 0]) ?_ 2 _ rfl; (with_reducible repeat (first | refine blk_drewN ?_ _ | refine blk_drew ?_ | refine blk_alloc ?_ _)); refine blk_put (cs := #[.int .i64 ((rd_T57 l0 x14_1).f0), .int .i64 0, .int .i64 0, .int .i64 0, .slice none 0 0]) ?_ 1 _ rfl; (with_reducible repeat (first | refine blk_drewN ?_ _ | refine blk_drew ?_ | refine blk_alloc ?_ _)); refine blk_put (cs := #[.int .i64 0, .int .i64 0, .int .i64 0, .int .i64 0, .slice none 0 0]) ?_ 0 _ rfl; (with_reducible repeat (first | refine blk_drewN ?_ _ | refine blk_drew ?_ | refine blk_alloc ?_ _)); exact BK383.out) hb); replace HB := zh HB hb; (try clear hb)))
        go_roundg k1
        case measure => have := HK1.out; omega
        case rel => exact ⟨(true), (wrap64 (x14_1 + 1)), zS, zS, H', ⟨by have := HK1.out; omega⟩, ⟨zK BK381.out⟩, ⟨zW HB.out⟩⟩
       ·replace c10 := Bool.eq_false_iff.mpr c10
        subst c10
        rw [if_neg zFT] at H
        by_cases c16 : (((rd_T57 l0 x14_1).f1.f3).length : Int) > 0
        ·rw [if_pos c16] at H
         have c16b0 : decide (0 < (((rd_T57 l0 x14_1).f1.f3).length : Int)) = true := decide_eq_true c16
         have c16b1 : decide (0 < ((rd_T57 l0 x14_1).f1.f3).length) = true := decide_eq_true (by omega)
         clear c16
         by_cases c17 : ((rd_T57 l0 x14_1).f1.f0) = a1_0
         ·rw [if_pos c17] at H
          have c17b0 : (((rd_T57 l0 x14_1).f1.f0) == a1_0) = true := beq_iff_eq.mpr c17
          have c17b1 : (((rd_T57 l0 x14_1).f1.f0) != a1_0) = false := bne_eq_false_iff_eq.mpr c17
          clear c17
          by_cases c18 : ((rd_T57 l0 x14_1).f1.f1) = a1_1
          ·rw [if_pos c18] at H
           have c18b0 : (((rd_T57 l0 x14_1).f1.f1) == a1_1) = true := beq_iff_eq.mpr c18
           have c18b1 : (((rd_T57 l0 x14_1).f1.f1) != a1_1) = false := bne_eq_false_iff_eq.mpr c18
           clear c18
           have H' := Aside0.mk H
           clear H
           have p382 : 0 ≤ (x14_1 : Int) := zD
           have q382 : x14_1 < (l0.length : Int) := zD
           obtain ⟨ad382, A382_4, c382_4, e382, hx382_0, hx382_1, hx382_2, hx382_3, hx382_4, hl382_4, hi382_4⟩ := at_T57 HR0.out x14_1 p382 q382
           cases e382
           replace hx382_0 := (HB.out.cell (World.block_lt_of_cell? w _ hx382_0)).trans hx382_0
           replace hx382_1 := (HB.out.cell (World.block_lt_of_cell? w _ hx382_1)).trans hx382_1
           replace hx382_2 := (HB.out.cell (World.block_lt_of_cell? w _ hx382_2)).trans hx382_2
           replace hx382_3 := (HB.out.cell (World.block_lt_of_cell? w _ hx382_3)).trans hx382_3
           replace hx382_4 := (HB.out.cell (World.block_lt_of_cell? w _ hx382_4)).trans hx382_4
           have HR382_4 := Aside0.mk hi382_4
           have HC382_4 := Aside0.mk hl382_4
           clear hi382_4 hl382_4
           replace p382 := eq_true p382
           replace q382 := eq_true q382
           go_wp2_with (first | ((with_reducible refine gate_dst (N := 7) rfl ?_); (try (refine gate_guard (by rfl) ?_; dsimp only)); refine box_event ?hg (N := 7) ?hd (cs := #[.int .i64 0, .int .i64 0, .int .i64 0, .int .i64 0, .slice none 0 0]) (t := 57) ?hr ?_; (case hd => rfl); (case hg => rfl); (case hr => first | (go_simp; done) | (go_simp; rfl)); intro gb383 hg w19 hbox hb; have BK383 := zA (hbox); have GW383 := zi HB hg; have GE383 := zi HB hg; replace HB := zh HB hb; have NB381_383 := zA (zL hg (zK BK381.out)); have NB383_381 := zA (zJ hg (zK BK381.out)); replace BK381 := zb BK381 hb; clear hb hbox hg; have hnb20 := NB383_381.out; have hnc20 := NB381_383.out; obtain ⟨hcz21_0, hcz21_1, hcz21_2, hcz21_3, hcz21_4, hfz21_0, hfz21_1, hfz21_2, hfz21_3, hfz21_4⟩ := ze5 BK383.out; obtain ⟨hcz22_0, hcz22_1, hcz22_2, hcz22_3, hfz22_0, hfz22_1, hfz22_2, hfz22_3⟩ := ze4 BK381.out) | ((with_reducible refine zq 32 ?_); refine zg (some 20) Tryd.func32 #[.agg #[.int .i64 ((rd_T57 l0 x14_1).f0), .int .i64 ((rd_T57 l0 x14_1).f1.f0), .int .i64 ((rd_T57 l0 x14_1).f1.f1), .int .i64 ((rd_T57 l0 x14_1).f1.f2), .slice A382_4 ((rd_T57 l0 x14_1).f1.f3).length c382_4], .agg #[.int .i64 a1_0, .int .i64 a1_1, .int .i64 a1_2, .slice A1_3 l1_3.length c1_3]] ?_; (with_reducible refine (impl_CmpOk.calls k1 ((rd_T57 l0 x14_1).f0) ((rd_T57 l0 x14_1).f1.f0) ((rd_T57 l0 x14_1).f1.f1) ((rd_T57 l0 x14_1).f1.f2) _ _ ((rd_T57 l0 x14_1).f1.f3) a1_0 a1_1 a1_2 _ _ l1_3 true _ ?side1 ?side2 ?side3 ?side4 A8.out).mono ?_); (case side1 => exact Kd.C_below HR382_4.out (zW HB.out)); (case side2 => exact HC382_4.out); (case side3 => exact Kd.C_below HR1_3.out (zW HB.out)); (case side4 => exact HC1_3.out); rintro e w23 ⟨rfl, hb⟩; refine ⟨_, rfl, ?_⟩; replace BK381 := zb BK381 hb; replace BK383 := zA (blk_below (g := gb383) (o := .cells #[.int .i64 ((rd_T57 l0 x14_1).f0), .int .i64 ((rd_T57 l0 x14_1).f1.f0), .int .i64 ((rd_T57 l0 x14_1).f1.f1), .int .i64 ((rd_T57 l0 x14_1).f1.f2), .slice A382_4 ((rd_T57 l0 x14_1).f1.f3).length c382_4] 57 (0, 0)) (by (with_reducible repeat (first | refine blk_drewN ?_ _ | refine blk_drew ?_ | refine blk_alloc ?_ _)); refine blk_put (cs := #[.int .i64 ((rd_T57 l0 x14_1).f0), .int .i64 ((rd_T57 l0 x14_1).f1.f0), .int .i64 ((rd_T57 l0 x14_1).f1.f1), .int .i64 ((rd_T57 l0 x14_1).f1.f2), .slice none 0 0]) ?_ 4 _ rfl; (with_reducible repeat (first | refine blk_drewN ?_ _ | refine blk_drew ?_ | refine blk_alloc ?_ _)); refine blk_put (cs := #[.int .i64 ((rd_T57 l0 x14_1).f0), .int .i64 ((rd_T57 l0 x14_1).f1.f0), .int .i64 ((rd_T57 l0 x14_1).f1.f1), .int .i64 0, .slice none 0 0]) ?_ 3 _ rfl; (with_reducible repeat (first | refine blk_drewN ?_ _ | refine blk_drew ?_ | refine blk_alloc ?_ _)); refine blk_put (cs := #[.int .i64 ((rd_T57 l0 x14_1).f0), .int .i64 ((rd_T57 l0 x14_1).f1.f0), .int .i64 0, .int .i64 0, .slice none 0 0]) ?_ 2 _ rfl; (with_reducible repeat (first | refine blk_drewN ?_ _ | refine blk_drew ?_ | refine blk_alloc ?_ _)); refine blk_put (cs := #[.int .i64 ((rd_T57 l0 x14_1).f0), .int .i64 0, .int .i64 0, .int .i64 0, .slice none 0 0]) ?_ 1 _ rfl; (with_reducible repeat (first | refine blk_drewN ?_ _ | refine blk_drew ?_ | refine blk_alloc ?_ _)); refine blk_put (cs := #[.int .i64 0, .int .i64 0, .int .i64 0, .int .i64 0, .slice none 0 0]) ?_ 0 _ rfl; (with_reducible repeat (first | refine blk_drewN ?_ _ | refine blk_drew ?_ | refine blk_alloc ?_ _)); exact BK383.out) hb); replace HB := zh HB hb; (try clear hb); obtain ⟨hcz24_0, hcz24_1, hcz24_2, hcz24_3, hcz24_4, hfz24_0, hfz24_1, hfz24_2, hfz24_3, hfz24_4⟩ := ze5 BK383.out; obtain ⟨hcz25_0, hcz25_1, hcz25_2, hcz25_3, hfz25_0, hfz25_1, hfz25_2, hfz25_3⟩ := ze4 BK381.out))
           go_roundg k1
           case measure => have := HK1.out; omega
           case rel => exact ⟨((((rd_T57 l0 x14_1).f1.f2) == a1_2)), (wrap64 (x14_1 + 1)), zS, zS, H', ⟨by have := HK1.out; omega⟩, ⟨zK BK381.out⟩, ⟨zW HB.out⟩⟩
          ·rw [if_neg c18] at H
           have c18b0 : (((rd_T57 l0 x14_1).f1.f1) == a1_1) = false := beq_eq_false_iff_ne.mpr c18
           have c18b1 : (((rd_T57 l0 x14_1).f1.f1) != a1_1) = true := bne_iff_ne.mpr c18
           have H' := Aside0.mk H
           clear H
           have p382 : 0 ≤ (x14_1 : Int) := zD
           have q382 : x14_1 < (l0.length : Int) := zD
           obtain ⟨ad382, A382_4, c382_4, e382, hx382_0, hx382_1, hx382_2, hx382_3, hx382_4, hl382_4, hi382_4⟩ := at_T57 HR0.out x14_1 p382 q382
           cases e382
           replace hx382_0 := (HB.out.cell (World.block_lt_of_cell? w _ hx382_0)).trans hx382_0
           replace hx382_1 := (HB.out.cell (World.block_lt_of_cell? w _ hx382_1)).trans hx382_1
           replace hx382_2 := (HB.out.cell (World.block_lt_of_cell? w _ hx382_2)).trans hx382_2
           replace hx382_3 := (HB.out.cell (World.block_lt_of_cell? w _ hx382_3)).trans hx382_3
           replace hx382_4 := (HB.out.cell (World.block_lt_of_cell? w _ hx382_4)).trans hx382_4
           have HR382_4 := Aside0.mk hi382_4
           have HC382_4 := Aside0.mk hl382_4
           clear hi382_4 hl382_4
           replace p382 := eq_true p382
           replace q382 := eq_true q382
           go_wp2_with (first | ((with_reducible refine gate_dst (N := 7) rfl ?_); (try (refine gate_guard (by rfl) ?_; dsimp only)); refine box_event ?hg (N := 7) ?hd (cs := #[.int .i64 0, .int .i64 0, .int .i64 0, .int .i64 0, .slice none 0 0]) (t := 57) ?hr ?_; (case hd => rfl); (case hg => rfl); (case hr => first | (go_simp; done) | (go_simp; rfl)); intro gb383 hg w26 hbox hb; have BK383 := zA (hbox); have GW383 := zi HB hg; have GE383 := zi HB hg; replace HB := zh HB hb; have NB381_383 := zA (zL hg (zK BK381.out)); have NB383_381 := zA (zJ hg (zK BK381.out)); replace BK381 := zb BK381 hb; clear hb hbox hg; have hnb27 := NB383_381.out; have hnc27 := NB381_383.out; obtain ⟨hcz28_0, hcz28_1, hcz28_2, hcz28_3, hcz28_4, hfz28_0, hfz28_1, hfz28_2, hfz28_3, hfz28_4⟩ := ze5 BK383.out; obtain ⟨hcz29_0, hcz29_1, hcz29_2, hcz29_3, hfz29_0, hfz29_1, hfz29_2, hfz29_3⟩ := ze4 BK381.out) | ((with_reducible refine zq 32 ?_); refine zg (some 20) Tryd.func32 #[.agg #[.int .i64 ((rd_T57 l0 x14_1).f0), .int .i64 ((rd_T57 l0 x14_1).f1.f0), .int .i64 ((rd_T57 l0 x14_1).f1.f1), .int .i64 ((rd_T57 l0 x14_1).f1.f2), .slice A382_4 ((rd_T57 l0 x14_1).f1.f3).length c382_4], .agg #[.int .i64 a1_0, .int .i64 a1_1, .int .i64 a1_2, .slice A1_3 l1_3.length c1_3]] ?_; (with_reducible refine (impl_CmpOk.calls k1 ((rd_T57 l0 x14_1).f0) ((rd_T57 l0 x14_1).f1.f0) ((rd_T57 l0 x14_1).f1.f1) ((rd_T57 l0 x14_1).f1.f2) _ _ ((rd_T57 l0 x14_1).f1.f3) a1_0 a1_1 a1_2 _ _ l1_3 true _ ?side1 ?side2 ?side3 ?side4 A8.out).mono ?_); (case side1 => exact Kd.C_below HR382_4.out (zW HB.out)); (case side2 => exact HC382_4.out); (case side3 => exact Kd.C_below HR1_3.out (zW HB.out)); (case side4 => exact HC1_3.out); rintro e w30 ⟨rfl, hb⟩; refine ⟨_, rfl, ?_⟩; replace BK381 := zb BK381 hb; replace BK383 := zA (blk_below (g := gb383) (o := .cells #[.int .i64 ((rd_T57 l0 x14_1).f0), .int .i64 ((rd_T57 l0 x14_1).f1.f0), .int .i64 ((rd_T57 l0 x14_1).f1.f1), .int .i64 ((rd_T57 l0 x14_1).f1.f2), .slice A382_4 ((rd_T57 l0 x14_1).f1.f3).length c382_4] 57 (0, 0)) (by (with_reducible repeat (first | refine blk_drewN ?_ _ | refine blk_drew ?_ | refine blk_alloc ?_ _)); refine blk_put (cs := #[.int .i64 ((rd_T57 l0 x14_1).f0), .int .i64 ((rd_T57 l0 x14_1).f1.f0), .int .i64 ((rd_T57 l0 x14_1).f1.f1), .int .i64 ((rd_T57 l0 x14_1).f1.f2), .slice none 0 0]) ?_ 4 _ rfl; (with_reducible repeat (first | refine blk_drewN ?_ _ | refine blk_drew ?_ | refine blk_alloc ?_ _)); refine blk_put (cs := #[.int .i64 ((rd_T57 l0 x14_1).f0), .int .i64 ((rd_T57 l0 x14_1).f1.f0), .int .i64 ((rd_T57 l0 x14_1).f1.f1), .int .i64 0, .slice none 0 0]) ?_ 3 _ rfl; (with_reducible repeat (first | refine blk_drewN ?_ _ | refine blk_drew ?_ | refine blk_alloc ?_ _)); refine blk_put (cs := #[.int .i64 ((rd_T57 l0 x14_1).f0), .int .i64 ((rd_T57 l0 x14_1).f1.f0), .int .i64 0, .int .i64 0, .slice none 0 0]) ?_ 2 _ rfl; (with_reducible repeat (first | refine blk_drewN ?_ _ | refine blk_drew ?_ | refine blk_alloc ?_ _)); refine blk_put (cs := #[.int .i64 ((rd_T57 l0 x14_1).f0), .int .i64 0, .int .i64 0, .int .i64 0, .slice none 0 0]) ?_ 1 _ rfl; (with_reducible repeat (first | refine blk_drewN ?_ _ | refine blk_drew ?_ | refine blk_alloc ?_ _)); refine blk_put (cs := #[.int .i64 0, .int .i64 0, .int .i64 0, .int .i64 0, .slice none 0 0]) ?_ 0 _ rfl; (with_reducible repeat (first | refine blk_drewN ?_ _ | refine blk_drew ?_ | refine blk_alloc ?_ _)); exact BK383.out) hb); replace HB := zh HB hb; (try clear hb); obtain ⟨hcz31_0, hcz31_1, hcz31_2, hcz31_3, hcz31_4, hfz31_0, hfz31_1, hfz31_2, hfz31_3, hfz31_4⟩ := ze5 BK383.out; obtain ⟨hcz32_0, hcz32_1, hcz32_2, hcz32_3, hfz32_0, hfz32_1, hfz32_2, hfz32_3⟩ := ze4 BK381.out))
           go_roundg k1
           case measure => have := HK1.out; omega
           case rel => exact ⟨(false), (wrap64 (x14_1 + 1)), zS, zS, H', ⟨by have := HK1.out; omega⟩, ⟨zK BK381.out⟩, ⟨zW HB.out⟩⟩
         ·rw [if_neg c17] at H
          have c17b0 : (((rd_T57 l0 x14_1).f1.f0) == a1_0) = false := beq_eq_false_iff_ne.mpr c17
          have c17b1 : (((rd_T57 l0 x14_1).f1.f0) != a1_0) = true := bne_iff_ne.mpr c17
          have H' := Aside0.mk H
          clear H
          have p382 : 0 ≤ (x14_1 : Int) := zD
          have q382 : x14_1 < (l0.length : Int) := zD
          obtain ⟨ad382, A382_4, c382_4, e382, hx382_0, hx382_1, hx382_2, hx382_3, hx382_4, hl382_4, hi382_4⟩ := at_T57 HR0.out x14_1 p382 q382
          cases e382
          replace hx382_0 := (HB.out.cell (World.block_lt_of_cell? w _ hx382_0)).trans hx382_0
          replace hx382_1 := (HB.out.cell (World.block_lt_of_cell? w _ hx382_1)).trans hx382_1
          replace hx382_2 := (HB.out.cell (World.block_lt_of_cell? w _ hx382_2)).trans hx382_2
          replace hx382_3 := (HB.out.cell (World.block_lt_of_cell? w _ hx382_3)).trans hx382_3
          replace hx382_4 := (HB.out.cell (World.block_lt_of_cell? w _ hx382_4)).trans hx382_4
          have HR382_4 := Aside0.mk hi382_4
          have HC382_4 := Aside0.mk hl382_4
          clear hi382_4 hl382_4
          replace p382 := eq_true p382
          replace q382 := eq_true q382
          go_wp2_with (first | ((with_reducible refine gate_dst (N := 7) rfl ?_); (try (refine gate_guard (by rfl) ?_; dsimp only)); refine box_event ?hg (N := 7) ?hd (cs := #[.int .i64 0, .int .i64 0, .int .i64 0, .int .i64 0, .slice none 0 0]) (t := 57) ?hr ?_; (case hd => rfl); (case hg => rfl); (case hr => first | (go_simp; done) | (go_simp; rfl)); intro gb383 hg w33 hbox hb; have BK383 := zA (hbox); have GW383 := zi HB hg; have GE383 := zi HB hg; replace HB := zh HB hb; have NB381_383 := zA (zL hg (zK BK381.out)); have NB383_381 := zA (zJ hg (zK BK381.out)); replace BK381 := zb BK381 hb; clear hb hbox hg; have hnb34 := NB383_381.out; have hnc34 := NB381_383.out; obtain ⟨hcz35_0, hcz35_1, hcz35_2, hcz35_3, hcz35_4, hfz35_0, hfz35_1, hfz35_2, hfz35_3, hfz35_4⟩ := ze5 BK383.out; obtain ⟨hcz36_0, hcz36_1, hcz36_2, hcz36_3, hfz36_0, hfz36_1, hfz36_2, hfz36_3⟩ := ze4 BK381.out) | ((with_reducible refine zq 32 ?_); refine zg (some 20) Tryd.func32 #[.agg #[.int .i64 ((rd_T57 l0 x14_1).f0), .int .i64 ((rd_T57 l0 x14_1).f1.f0), .int .i64 ((rd_T57 l0 x14_1).f1.f1), .int .i64 ((rd_T57 l0 x14_1).f1.f2), .slice A382_4 ((rd_T57 l0 x14_1).f1.f3).length c382_4], .agg #[.int .i64 a1_0, .int .i64 a1_1, .int .i64 a1_2, .slice A1_3 l1_3.length c1_3]] ?_; (with_reducible refine (impl_CmpOk.calls k1 ((rd_T57 l0 x14_1).f0) ((rd_T57 l0 x14_1).f1.f0) ((rd_T57 l0 x14_1).f1.f1) ((rd_T57 l0 x14_1).f1.f2) _ _ ((rd_T57 l0 x14_1).f1.f3) a1_0 a1_1 a1_2 _ _ l1_3 true _ ?side1 ?side2 ?side3 ?side4 A8.out).mono ?_); (case side1 => exact Kd.C_below HR382_4.out (zW HB.out)); (case side2 => exact HC382_4.out); (case side3 => exact Kd.C_below HR1_3.out (zW HB.out)); (case side4 => exact HC1_3.out); rintro e w37 ⟨rfl, hb⟩; refine ⟨_, rfl, ?_⟩; replace BK381 := zb BK381 hb; replace BK383 := zA (blk_below (g := gb383) (o := .cells #[.int .i64 ((rd_T57 l0 x14_1).f0), .int .i64 ((rd_T57 l0 x14_1).f1.f0), .int .i64 ((rd_T57 l0 x14_1).f1.f1), .int .i64 ((rd_T57 l0 x14_1).f1.f2), .slice A382_4 ((rd_T57 l0 x14_1).f1.f3).length c382_4] 57 (0, 0)) (by (with_reducible repeat (first | refine blk_drewN ?_ _ | refine blk_drew ?_ | refine blk_alloc ?_ _)); refine blk_put (cs := #[.int .i64 ((rd_T57 l0 x14_1).f0), .int .i64 ((rd_T57 l0 x14_1).f1.f0), .int .i64 ((rd_T57 l0 x14_1).f1.f1), .int .i64 ((rd_T57 l0 x14_1).f1.f2), .slice none 0 0]) ?_ 4 _ rfl; (with_reducible repeat (first | refine blk_drewN ?_ _ | refine blk_drew ?_ | refine blk_alloc ?_ _)); refine blk_put (cs := #[.int .i64 ((rd_T57 l0 x14_1).f0), .int .i64 ((rd_T57 l0 x14_1).f1.f0), .int .i64 ((rd_T57 l0 x14_1).f1.f1), .int .i64 0, .slice none 0 0]) ?_ 3 _ rfl; (with_reducible repeat (first | refine blk_drewN ?_ _ | refine blk_drew ?_ | refine blk_alloc ?_ _)); refine blk_put (cs := #[.int .i64 ((rd_T57 l0 x14_1).f0), .int .i64 ((rd_T57 l0 x14_1).f1.f0), .int .i64 0, .int .i64 0, .slice none 0 0]) ?_ 2 _ rfl; (with_reducible repeat (first | refine blk_drewN ?_ _ | refine blk_drew ?_ | refine blk_alloc ?_ _)); refine blk_put (cs := #[.int .i64 ((rd_T57 l0 x14_1).f0), .int .i64 0, .int .i64 0, .int .i64 0, .slice none 0 0]) ?_ 1 _ rfl; (with_reducible repeat (first | refine blk_drewN ?_ _ | refine blk_drew ?_ | refine blk_alloc ?_ _)); refine blk_put (cs := #[.int .i64 0, .int .i64 0, .int .i64 0, .int .i64 0, .slice none 0 0]) ?_ 0 _ rfl; (with_reducible repeat (first | refine blk_drewN ?_ _ | refine blk_drew ?_ | refine blk_alloc ?_ _)); exact BK383.out) hb); replace HB := zh HB hb; (try clear hb); obtain ⟨hcz38_0, hcz38_1, hcz38_2, hcz38_3, hcz38_4, hfz38_0, hfz38_1, hfz38_2, hfz38_3, hfz38_4⟩ := ze5 BK383.out; obtain ⟨hcz39_0, hcz39_1, hcz39_2, hcz39_3, hfz39_0, hfz39_1, hfz39_2, hfz39_3⟩ := ze4 BK381.out))
          go_roundg k1
          case measure => have := HK1.out; omega
          case rel => exact ⟨(false), (wrap64 (x14_1 + 1)), zS, zS, H', ⟨by have := HK1.out; omega⟩, ⟨zK BK381.out⟩, ⟨zW HB.out⟩⟩
        ·rw [if_neg c16] at H
         have c16b0 : decide (0 < (((rd_T57 l0 x14_1).f1.f3).length : Int)) = false := decide_eq_false c16
         have c16b1 : decide (0 < ((rd_T57 l0 x14_1).f1.f3).length) = false := decide_eq_false (by omega)
         clear c16
         have H' := Aside0.mk H
         clear H
         have p382 : 0 ≤ (x14_1 : Int) := zD
         have q382 : x14_1 < (l0.length : Int) := zD
         obtain ⟨ad382, A382_4, c382_4, e382, hx382_0, hx382_1, hx382_2, hx382_3, hx382_4, hl382_4, hi382_4⟩ := at_T57 HR0.out x14_1 p382 q382
         cases e382
         replace hx382_0 := (HB.out.cell (World.block_lt_of_cell? w _ hx382_0)).trans hx382_0
         replace hx382_1 := (HB.out.cell (World.block_lt_of_cell? w _ hx382_1)).trans hx382_1
         replace hx382_2 := (HB.out.cell (World.block_lt_of_cell? w _ hx382_2)).trans hx382_2
         replace hx382_3 := (HB.out.cell (World.block_lt_of_cell? w _ hx382_3)).trans hx382_3
         replace hx382_4 := (HB.out.cell (World.block_lt_of_cell? w _ hx382_4)).trans hx382_4
         have HR382_4 := Aside0.mk hi382_4
         have HC382_4 := Aside0.mk hl382_4
         clear hi382_4 hl382_4
         replace p382 := eq_true p382
         replace q382 := eq_true q382
         go_wp2_with (first | ((with_reducible refine gate_dst (N := 7) rfl ?_); (try (refine gate_guard (by rfl) ?_; dsimp only)); refine box_event ?hg (N := 7) ?hd (cs := #[.int .i64 0, .int .i64 0, .int .i64 0, .int .i64 0, .slice none 0 0]) (t := 57) ?hr ?_; (case hd => rfl); (case hg => rfl); (case hr => first | (go_simp; done) | (go_simp; rfl)); intro gb383 hg w40 hbox hb; have BK383 := zA (hbox); have GW383 := zi HB hg; have GE383 := zi HB hg; replace HB := zh HB hb; have NB381_383 := zA (zL hg (zK BK381.out)); have NB383_381 := zA (zJ hg (zK BK381.out)); replace BK381 := zb BK381 hb; clear hb hbox hg; have hnb41 := NB383_381.out; have hnc41 := NB381_383.out; obtain ⟨hcz42_0, hcz42_1, hcz42_2, hcz42_3, hcz42_4, hfz42_0, hfz42_1, hfz42_2, hfz42_3, hfz42_4⟩ := ze5 BK383.out; obtain ⟨hcz43_0, hcz43_1, hcz43_2, hcz43_3, hfz43_0, hfz43_1, hfz43_2, hfz43_3⟩ := ze4 BK381.out) | ((with_reducible refine zq 32 ?_); refine zg (some 20) Tryd.func32 #[.agg #[.int .i64 ((rd_T57 l0 x14_1).f0), .int .i64 ((rd_T57 l0 x14_1).f1.f0), .int .i64 ((rd_T57 l0 x14_1).f1.f1), .int .i64 ((rd_T57 l0 x14_1).f1.f2), .slice A382_4 ((rd_T57 l0 x14_1).f1.f3).length c382_4], .agg #[.int .i64 a1_0, .int .i64 a1_1, .int .i64 a1_2, .slice A1_3 l1_3.length c1_3]] ?_; (with_reducible refine (impl_CmpOk.calls k1 ((rd_T57 l0 x14_1).f0) ((rd_T57 l0 x14_1).f1.f0) ((rd_T57 l0 x14_1).f1.f1) ((rd_T57 l0 x14_1).f1.f2) _ _ ((rd_T57 l0 x14_1).f1.f3) a1_0 a1_1 a1_2 _ _ l1_3 true _ ?side1 ?side2 ?side3 ?side4 A8.out).mono ?_); (case side1 => exact Kd.C_below HR382_4.out (zW HB.out)); (case side2 => exact HC382_4.out); (case side3 => exact Kd.C_below HR1_3.out (zW HB.out)); (case side4 => exact HC1_3.out); rintro e w44 ⟨rfl, hb⟩; refine ⟨_, rfl, ?_⟩; replace BK381 := zb BK381 hb; replace BK383 := zA (blk_below (g := gb383) (o := .cells #[.int .i64 ((rd_T57 l0 x14_1).f0), .int .i64 ((rd_T57 l0 x14_1).f1.f0), .int .i64 ((rd_T57 l0 x14_1).f1.f1), .int .i64 ((rd_T57 l0 x14_1).f1.f2), .slice A382_4 ((rd_T57 l0 x14_1).f1.f3).length c382_4] 57 (0, 0)) (by (with_reducible repeat (first | refine blk_drewN ?_ _ | refine blk_drew ?_ | refine blk_alloc ?_ _)); refine blk_put (cs := #[.int .i64 ((rd_T57 l0 x14_1).f0), .int .i64 ((rd_T57 l0 x14_1).f1.f0), .int .i64 ((rd_T57 l0 x14_1).f1.f1), .int .i64 ((rd_T57 l0 x14_1).f1.f2), .slice none 0 0]) ?_ 4 _ rfl; (with_reducible repeat (first | refine blk_drewN ?_ _ | refine blk_drew ?_ | refine blk_alloc ?_ _)); refine blk_put (cs := #[.int .i64 ((rd_T57 l0 x14_1).f0), .int .i64 ((rd_T57 l0 x14_1).f1.f0), .int .i64 ((rd_T57 l0 x14_1).f1.f1), .int .i64 0, .slice none 0 0]) ?_ 3 _ rfl; (with_reducible repeat (first | refine blk_drewN ?_ _ | refine blk_drew ?_ | refine blk_alloc ?_ _)); refine blk_put (cs := #[.int .i64 ((rd_T57 l0 x14_1).f0), .int .i64 ((rd_T57 l0 x14_1).f1.f0), .int .i64 0, .int .i64 0, .slice none 0 0]) ?_ 2 _ rfl; (with_reducible repeat (first | refine blk_drewN ?_ _ | refine blk_drew ?_ | refine blk_alloc ?_ _)); refine blk_put (cs := #[.int .i64 ((rd_T57 l0 x14_1).f0), .int .i64 0, .int .i64 0, .int .i64 0, .slice none 0 0]) ?_ 1 _ rfl; (with_reducible repeat (first | refine blk_drewN ?_ _ | refine blk_drew ?_ | refine blk_alloc ?_ _)); refine blk_put (cs := #[.int .i64 0, .int .i64 0, .int .i64 0, .int .i64 0, .slice none 0 0]) ?_ 0 _ rfl; (with_reducible repeat (first | refine blk_drewN ?_ _ | refine blk_drew ?_ | refine blk_alloc ?_ _)); exact BK383.out) hb); replace HB := zh HB hb; (try clear hb); obtain ⟨hcz45_0, hcz45_1, hcz45_2, hcz45_3, hcz45_4, hfz45_0, hfz45_1, hfz45_2, hfz45_3, hfz45_4⟩ := ze5 BK383.out))
         go_roundg k1
         case measure => have := HK1.out; omega
         case rel => exact ⟨(false), (wrap64 (x14_1 + 1)), zS, zS, H', ⟨by have := HK1.out; omega⟩, ⟨zK BK381.out⟩, ⟨zW HB.out⟩⟩
      ·replace c9 := Bool.eq_false_iff.mpr c9
       subst c9
       rw [if_neg zFT] at H
       obtain rfl := Option.some.inj H
       have p382 : 0 ≤ (x14_1 : Int) := zD
       have q382 : x14_1 < (l0.length : Int) := zD
       obtain ⟨ad382, A382_4, c382_4, e382, hx382_0, hx382_1, hx382_2, hx382_3, hx382_4, hl382_4, hi382_4⟩ := at_T57 HR0.out x14_1 p382 q382
       cases e382
       replace hx382_0 := (HB.out.cell (World.block_lt_of_cell? w _ hx382_0)).trans hx382_0
       replace hx382_1 := (HB.out.cell (World.block_lt_of_cell? w _ hx382_1)).trans hx382_1
       replace hx382_2 := (HB.out.cell (World.block_lt_of_cell? w _ hx382_2)).trans hx382_2
       replace hx382_3 := (HB.out.cell (World.block_lt_of_cell? w _ hx382_3)).trans hx382_3
       replace hx382_4 := (HB.out.cell (World.block_lt_of_cell? w _ hx382_4)).trans hx382_4
       have HR382_4 := Aside0.mk hi382_4
       have HC382_4 := Aside0.mk hl382_4
       clear hi382_4 hl382_4
       replace p382 := eq_true p382
       replace q382 := eq_true q382
       go_wp2_with (first | ((with_reducible refine gate_dst (N := 7) rfl ?_); (try (refine gate_guard (by rfl) ?_; dsimp only)); refine box_event ?hg (N := 7) ?hd (cs := #[.int .i64 0, .int .i64 0, .int .i64 0, .int .i64 0, .slice none 0 0]) (t := 57) ?hr ?_; (case hd => rfl); (case hg => rfl); (case hr => first | (go_simp; done) | (go_simp; rfl)); intro gb383 hg w46 hbox hb; have BK383 := zA (hbox); have GW383 := zi HB hg; have GE383 := zi HB hg; replace HB := zh HB hb; have NB381_383 := zA (zL hg (zK BK381.out)); have NB383_381 := zA (zJ hg (zK BK381.out)); replace BK381 := zb BK381 hb; clear hb hbox hg; have hnb47 := NB383_381.out; have hnc47 := NB381_383.out; obtain ⟨hcz48_0, hcz48_1, hcz48_2, hcz48_3, hcz48_4, hfz48_0, hfz48_1, hfz48_2, hfz48_3, hfz48_4⟩ := ze5 BK383.out; obtain ⟨hcz49_0, hcz49_1, hcz49_2, hcz49_3, hfz49_0, hfz49_1, hfz49_2, hfz49_3⟩ := ze4 BK381.out) | ((with_reducible refine zq 32 ?_); refine zg (some 20) Tryd.func32 #[.agg #[.int .i64 ((rd_T57 l0 x14_1).f0), .int .i64 ((rd_T57 l0 x14_1).f1.f0), .int .i64 ((rd_T57 l0 x14_1).f1.f1), .int .i64 ((rd_T57 l0 x14_1).f1.f2), .slice A382_4 ((rd_T57 l0 x14_1).f1.f3).length c382_4], .agg #[.int .i64 a1_0, .int .i64 a1_1, .int .i64 a1_2, .slice A1_3 l1_3.length c1_3]] ?_; (with_reducible refine (impl_CmpOk.calls k1 ((rd_T57 l0 x14_1).f0) ((rd_T57 l0 x14_1).f1.f0) ((rd_T57 l0 x14_1).f1.f1) ((rd_T57 l0 x14_1).f1.f2) _ _ ((rd_T57 l0 x14_1).f1.f3) a1_0 a1_1 a1_2 _ _ l1_3 false _ ?side1 ?side2 ?side3 ?side4 A8.out).mono ?_); (case side1 => exact Kd.C_below HR382_4.out (zW HB.out)); (case side2 => exact HC382_4.out); (case side3 => exact Kd.C_below HR1_3.out (zW HB.out)); (case side4 => exact HC1_3.out); rintro e w50 ⟨rfl, hb⟩; refine ⟨_, rfl, ?_⟩; replace BK381 := zb BK381 hb; replace BK383 := zA (blk_below (g := gb383) (o := .cells #[.int .i64 ((rd_T57 l0 x14_1).f0), .int .i64 ((rd_T57 l0 x14_1).f1.f0), .int .i64 ((rd_T57 l0 x14_1).f1.f1), .int .i64 ((rd_T57 l0 x14_1).f1.f2), .slice A382_4 ((rd_T57 l0 x14_1).f1.f3).length c382_4] 57 (0, 0)) (by (with_reducible repeat (first | refine blk_drewN ?_ _ | refine blk_drew ?_ | refine blk_alloc ?_ _)); refine blk_put (cs := #[.int .i64 ((rd_T57 l0 x14_1).f0), .int .i64 ((rd_T57 l0 x14_1).f1.f0), .int .i64 ((rd_T57 l0 x14_1).f1.f1), .int .i64 ((rd_T57 l0 x14_1).f1.f2), .slice none 0 0]) ?_ 4 _ rfl; (with_reducible repeat (first | refine blk_drewN ?_ _ | refine blk_drew ?_ | refine blk_alloc ?_ _)); refine blk_put (cs := #[.int .i64 ((rd_T57 l0 x14_1).f0), .int .i64 ((rd_T57 l0 x14_1).f1.f0), .int .i64 ((rd_T57 l0 x14_1).f1.f1), .int .i64 0, .slice none 0 0]) ?_ 3 _ rfl; (with_reducible repeat (first | refine blk_drewN ?_ _ | refine blk_drew ?_ | refine blk_alloc ?_ _)); refine blk_put (cs := #[.int .i64 ((rd_T57 l0 x14_1).f0), .int .i64 ((rd_T57 l0 x14_1).f1.f0), .int .i64 0, .int .i64 0, .slice none 0 0]) ?_ 2 _ rfl; (with_reducible repeat (first | refine blk_drewN ?_ _ | refine blk_drew ?_ | refine blk_alloc ?_ _)); refine blk_put (cs := #[.int .i64 ((rd_T57 l0 x14_1).f0), .int .i64 0, .int .i64 0, .int .i64 0, .slice none 0 0]) ?_ 1 _ rfl; (with_reducible repeat (first | refine blk_drewN ?_ _ | refine blk_drew ?_ | refine blk_alloc ?_ _)); refine blk_put (cs := #[.int .i64 0, .int .i64 0, .int .i64 0, .int .i64 0, .slice none 0 0]) ?_ 0 _ rfl; (with_reducible repeat (first | refine blk_drewN ?_ _ | refine blk_drew ?_ | refine blk_alloc ?_ _)); exact BK383.out) hb); replace HB := zh HB hb; (try clear hb)))
       go_ret
       exact ⟨zE, zW HB.out⟩
     ·rw [if_neg c7] at H
      exact absurd H (by simp)
    ·rw [if_neg c6] at H
     exact absurd H (by simp)
   ·rw [if_neg c5] at H
    have c5b0 := decide_eq_false c5
    clear c5
    obtain rfl := Option.some.inj H
    go_wp2
    go_ret
    exact ⟨zE, zW HB.out⟩
end Go.Proofs.YtpcdhoeoefoeoaaDoor.PGA
