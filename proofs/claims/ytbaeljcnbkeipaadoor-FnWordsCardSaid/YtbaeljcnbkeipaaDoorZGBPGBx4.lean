/- The walks of the functions that these laws reach, and what each comes to: printed by this session's program. -/
import Derived.Test.YtbaeljcnbkeipaaDoorZGBPGBx0
import Derived.Test.YtbaeljcnbkeipaaDoorZGBPGBx1
import Derived.Test.YtbaeljcnbkeipaaDoorZGBPGBx2
import Derived.Test.YtbaeljcnbkeipaaDoorZGBSays
import Derived.Test.YtbaeljcnbkeipaaDoorZGBRegs
namespace Go.Proofs.YtbaeljcnbkeipaaDoor.PGB
open Go.RowKit YtbaeljcnbkeipaaDoorW.PrintWords YtbaeljcnbkeipaaDoorW.PrintLast YtbaeljcnbkeipaaDoorW.PrintMore
attribute [local go_sem high] Mine.str_gtr Mine.str_leq Mine.str_geq
attribute [local go_sem] max2_int min2_int max_two min_two max_three min_three max_four min_four   -- for this text's walks alone
set_option linter.unusedVariables false
set_option maxHeartbeats 8000000
set_option maxRecDepth 100000
set_option linter.unusedSimpArgs false
/-! ### laws_FnWords: function 6 -/
mutual
def laws_FnWords.j0 : Nat → List Int → Option (Bool)
 | 0, _ => none
 | k + 1, x0 => (laws_at.f x0 2).bind fun b0 => ((laws_at.f x0 3).bind fun b1 => ((impl_NumText.f (wrap64 ((wrap64 (b0 * 256)) + b1))).bind fun b8 => ((impl_ParseNum.f k b8 65535).bind fun b2 => ((spec_DrawParseNum.f k x0).bind fun a6 => ((impl_ParseNum.f k a6.1 a6.2).bind fun b3 => ((spec_ParseNum.f k a6.1 a6.2).bind fun b4 => ((spec_DrawSplit.f k x0).bind fun b5 => ((spec_DrawSorted.f k x0).bind fun b6 => ((impl_Sorted.f b6).bind fun b9 => (laws_FnWords.l0 k x0 (wrap64 ((wrap64 (b0 * 256)) + b1)) b2.1 b2.2 b3.1 b3.2 b4.1 b4.2 b5.1 b5.2 b6 b9 0))))))))))
def laws_FnWords.l0 : Nat → List Int → Int → Int → Bool → Int → Bool → Int → Bool → ByteArray → Int → List ByteArray → List ByteArray → Int → Option (Bool)
 | 0, _, _, _, _, _, _, _, _, _, _, _, _, _ => none
 | k + 1, x0, x3, x4, x5, x8, x9, a4, a5, a2, a3, a1, a0, a7 => if a7 < (a1.length : Int) then (if 0 ≤ a7 then ((laws_hasText.f k a0 (rdOf ByteArray.empty a1 a7)).bind fun c0 => (if c0 = true then (laws_FnWords.l0 k x0 x3 x4 x5 x8 x9 a4 a5 a2 a3 a1 a0 (wrap64 (a7 + 1))) else (none))) else (none)) else (laws_FnWords.l1 k x0 x3 x4 x5 x8 x9 a4 a5 a2 a3 a1 a0 0)
def laws_FnWords.l1 : Nat → List Int → Int → Int → Bool → Int → Bool → Int → Bool → ByteArray → Int → List ByteArray → List ByteArray → Int → Option (Bool)
 | 0, _, _, _, _, _, _, _, _, _, _, _, _, _ => none
 | k + 1, x0, x3, x4, x5, x8, x9, a4, a5, a2, a3, a1, a0, a8 => if a8 < (a0.length : Int) then (if 0 ≤ a8 then ((laws_hasText.f k a1 (rdOf ByteArray.empty a0 a8)).bind fun c1 => (if c1 = true then (laws_FnWords.l1 k x0 x3 x4 x5 x8 x9 a4 a5 a2 a3 a1 a0 (wrap64 (a8 + 1))) else (none))) else (none)) else ((spec_DrawJoin.f k x0).bind fun a9 => ((spec_DrawNumText.f k x0).bind fun b7 => (if x5 = true then (if x4 = x3 then (if (x9 == a5) = true then (if x8 = a4 then ((impl_Split.f a2 a3).bind fun c2 => ((impl_Join.f c2 (strOfNums (([a3] : List Int)))).bind fun c3 => (if c3.toList = a2.toList then ((laws_ascending.f k a0).bind fun c4 => (if c4 = true then ((impl_Sorted.f a0).bind fun c5 => ((laws_sameTexts.f k c5 a0).bind fun c6 => (if c6 = true then ((impl_Join.f a9.1 a9.2).bind fun c7 => ((spec_Join.f k a9.1 a9.2).bind fun c8 => (if c7.toList = c8.toList then ((impl_NumText.f b7).bind fun c9 => ((spec_NumText.f k b7).bind fun d0 => (some (c9.toList == d0.toList)))) else (none)))) else (none)))) else (none))) else (none)))) else (none)) else (none)) else (none)) else (none))))
end
def laws_FnWords.f (k : Nat) (l0 : List Int) : Option (Bool) := (laws_big.f l0).bind fun a0 => (if a0 = true then (some true) else (laws_FnWords.j0 k l0))
def laws_FnWords.T23 : Bool × List (List Nat × List Nat) := (true, [([], []), ([0], [0]), ([1], [1]), ([1], [1]), ([2, 3, 1], [1, 2, 3]), ([1, 4], [1, 4]), ([5, 1], [5]), ([6], [6]), ([6], [6]), ([7, 8, 6], [6, 7, 8]), ([6, 9], [6, 9]), ([10, 6], [10]), ([11], [11]), ([11], [11]), ([12, 13, 11], [11, 12, 13]), ([11, 14], [11, 14]), ([15, 11], [15]), ([16], [16]), ([16], [16]), ([17, 18, 16, 16], [16, 17, 18]), ([16], [16]), ([20, 16], [16, 20]), ([21, 16], [16, 21]), ([19, 22, 19, 16], [16, 19, 22]), ([16], [16]), ([23, 24, 16], [16, 23, 24]), ([16, 25], [16, 25]), ([26, 23], [26]), ([27], [27]), ([28, 27, 27], [27, 28]), ([27, 29], [27, 29]), ([30, 29], [30]), ([31], [31]), ([32, 31, 31], [31, 32]), ([31], [31]), ([33, 34, 33, 31], [31, 33, 34]), ([31, 35], [31, 35]), ([36, 35], [36]), ([37], [37]), ([37], [37]), ([38, 39, 37, 37], [37, 38, 39]), ([37], [37]), ([37], [37]), ([41, 42, 40, 37], [37, 41, 42]), ([40, 43, 37], [37, 40, 43]), ([37, 44], [37, 44]), ([45, 43], [45]), ([46], [46]), ([47, 46, 46], [46, 47]), ([46], [46]), ([49, 48, 46], [46, 49]), ([48, 50, 46], [46, 48, 50]), ([46, 51], [46, 51]), ([52, 50, 0, 1, 2, 3, 4, 5, 6, 7, 8, 9, 10, 11, 12, 13, 14, 15, 16, 17, 18, 19, 20, 21, 22, 23, 24, 25, 26, 27, 28, 29, 30, 31, 32, 33, 34, 35, 36, 37, 38, 39, 40, 41, 42, 43, 44, 45, 46, 47, 48, 49, 50, 51, 52], [52])])
def laws_FnWords.B23 : List Nat := [0, 1, 3, 3, 15, 31, 63, 127, 127, 511, 1023, 2047, 4095, 4095, 16383, 32767, 65535, 131071, 131071, 524287, 131071, 1179647, 3276799, 8388607, 131071, 33554431, 67108863, 134217727, 268435455, 536870911, 1073741823, 2147483647, 4294967295, 8589934591, 4294967295, 34359738367, 68719476735, 137438953471, 274877906943, 274877906943, 1099511627775, 274877906943, 274877906943, 8796093022207, 17592186044415, 35184372088831, 70368744177663, 140737488355327, 281474976710655, 140737488355327, 1125899906842623, 2251799813685247, 4503599627370495, 9007199254740991]
theorem laws_FnWords.tab23 : rtab .any (opsOf Tryd.f6 23) = laws_FnWords.T23 := by kernel_rfl
theorem laws_FnWords.bits23 : waitsOk laws_FnWords.T23.2 laws_FnWords.B23 = true := by kernel_rfl
theorem laws_FnWords.calls (k : Nat) (A0 : Option Addr) (c0 : Nat) (l0 : List Int) (r : Bool) (w : World) (h5 : Kd.C (Kd.int .u8) w A0 l0.length l0) (h6 : l0.length ≤ c0) (hG : GW w) (h : laws_FnWords.f k l0 = some r) :
  Calls Tryd.prog 6 #[.slice A0 l0.length c0] w fun e w' => e = .returned (.bool r) ∧ Below w.heap.size w w' := by
 have d1 := zA h5
 have d2 := zA h6
 clear h5 h6
 have HG := zA hG
 clear hG
 have HB := zA (Below.refl w.heap.size w)
 unfold laws_FnWords.f at h
 have H := h
 clear h
 replace H := Option.bind_eq_some_iff.mp H
 obtain ⟨m1, h7, H⟩ := H
 try dsimp only at H
 have A2 := zA h7
 clear h7
 have f9 := zA H
 clear H
 go_enter Tryd.func6, Tryd.ntmps6
 go_upto_if 22 with (first | ((with_reducible refine zq 17 ?_); refine zg (some 22) Tryd.func17 #[.slice A0 l0.length c0] ?_; (with_reducible refine (laws_big.calls _ _ l0 m1 _ ?s1 ?s2 A2.out).mono ?_); (case s1 => repeat (first | exact d1.out | (with_reducible refine Kd.C_alloc ?_ _) | (with_reducible refine Kd.C_drewN ?_ _) | (with_reducible refine Kd.C_drew ?_))); (case s2 => exact d2.out); rintro e w' ⟨rfl, ⟨nd, rfl⟩⟩; refine ⟨_, rfl, ?_⟩))
 (try simp only [Act.put, zT])
 go_cut [] (fun wc => ∃ (kq : Nat), Aside0 (laws_FnWords.j0 kq l0 = some r) ∧ Aside0 (kq ≤ k) ∧ Aside0 (Below w.heap.size w wc))
 case first =>
  have H := f9.out; clear f9; replace H := zB0 H
  rcases H with ⟨rfl, H⟩ | ⟨rfl, H⟩
  ·obtain rfl := zm H
   go_wp2
   go_ret
   exact ⟨zE, zB⟩
  have H' := zA H; clear H
  go_wp2
  go_meet
  case rel => exact ⟨_, (by first | exact H' | (subst_vars; exact H')), ⟨by first | omega | exact Nat.le_refl _⟩, ⟨zB⟩⟩
 case rest =>
  clear f9
  try clear c1
  try clear p2
  try clear c4
  obtain ⟨kq, HA, f3, HB⟩ := hcut
  cases kq with
  | zero => exact absurd HA.out (by simp [laws_FnWords.j0])
  | succ d3 =>
   have H := HA.out; clear HA; simp only [laws_FnWords.j0] at H; replace H := Option.bind_eq_some_iff.mp H; obtain ⟨e7, f4, H⟩ := H
   try dsimp only at H
   have A5 := zA f4; clear f4; replace H := Option.bind_eq_some_iff.mp H; obtain ⟨e8, h8, H⟩ := H
   try dsimp only at H
   have A6 := zA h8; clear h8; replace H := Option.bind_eq_some_iff.mp H; obtain ⟨g0, h9, H⟩ := H
   try dsimp only at H
   have A7 := zA h9; clear h9; replace H := Option.bind_eq_some_iff.mp H; obtain ⟨⟨g1, g2⟩, i0, H⟩ := H
   try dsimp only at H
   have A8 := zA i0; clear i0; replace H := Option.bind_eq_some_iff.mp H; obtain ⟨⟨e9, f0⟩, i1, H⟩ := H
   try dsimp only at H
   have A9 := zA i1; clear i1; replace H := Option.bind_eq_some_iff.mp H; obtain ⟨⟨g3, b3⟩, i2, H⟩ := H
   try dsimp only at H
   have m2 := zA i2; clear i2; replace H := Option.bind_eq_some_iff.mp H; obtain ⟨⟨g4, b4⟩, i3, H⟩ := H
   try dsimp only at H
   have m3 := zA i3; clear i3; replace H := Option.bind_eq_some_iff.mp H; obtain ⟨⟨b5, a8⟩, i4, H⟩ := H
   try dsimp only at H
   have m4 := zA i4; clear i4; replace H := Option.bind_eq_some_iff.mp H; obtain ⟨a5, i5, H⟩ := H
   try dsimp only at H
   have m5 := zA i5; clear i5; replace H := Option.bind_eq_some_iff.mp H; obtain ⟨a3, i6, H⟩ := H
   try dsimp only at H
   have m6 := zA i6; clear i6; have H' := zA H; clear H
   go_wp2_with (first | ((with_reducible refine zq 37 ?_); refine zg (some 24) Tryd.func37 #[.slice A0 l0.length c0, .int .i64 2] ?_; (with_reducible refine (laws_at.calls _ _ l0 2 e7 _ ?s1 ?s2 A5.out).mono ?_); (case s1 => exact zC (Kd.C_below d1.out HB.out)); (case s2 => exact d2.out); rintro e w' ⟨rfl, ⟨nd, rfl⟩⟩; refine ⟨_, rfl, ?_⟩) | ((with_reducible refine zq 37 ?_); refine zg (some 27) Tryd.func37 #[.slice A0 l0.length c0, .int .i64 3] ?_; (with_reducible refine (laws_at.calls _ _ l0 3 e8 _ ?s1 ?s2 A6.out).mono ?_); (case s1 => repeat (first | exact (Kd.C_below d1.out (zB)) | (with_reducible refine Kd.C_alloc ?_ _) | (with_reducible refine Kd.C_drewN ?_ _) | (with_reducible refine Kd.C_drew ?_))); (case s2 => exact d2.out); rintro e w' ⟨rfl, ⟨nd, rfl⟩⟩; refine ⟨_, rfl, ?_⟩) | ((with_reducible refine zq 39 ?_); refine zg (some 31) Tryd.func39 #[.int .i64 (wrap64 ((wrap64 (e7 * 256)) + e8))] ?_; (with_reducible refine (impl_NumText.calls (wrap64 ((wrap64 (e7 * 256)) + e8)) g0 _ ?s1 A7.out).mono ?_); (case s1 => exact GW.below HG.out (zB)); rintro e q8 ⟨rfl, hb⟩; refine ⟨_, rfl, ?_⟩; replace HB := zA (below_step (zB) hb); (try clear hb)) | ((with_reducible refine zq 38 ?_); refine zg (some 32) Tryd.func38 #[.string g0, .int .i64 65535] ?_; (with_reducible refine (impl_ParseNum.calls d3 g0 65535 g1 g2 _ ?s1 A8.out).mono ?_); (case s1 => exact GW.below HG.out (zB)); rintro e q9 ⟨rfl, hb⟩; refine ⟨_, rfl, ?_⟩; replace HB := zA (below_step (zB) hb); (try clear hb)) | ((with_reducible refine zq 40 ?_); refine zg (some 37) Tryd.func40 #[.slice A0 l0.length c0] ?_; (with_reducible refine (spec_DrawParseNum.calls d3 _ _ l0 e9 f0 _ ?s1 ?s2 A9.out).mono ?_); (case s1 => exact zC (Kd.C_below d1.out HB.out)); (case s2 => exact d2.out); rintro e r0 ⟨rfl, hb⟩; refine ⟨_, rfl, ?_⟩; replace HB := zA (below_step (zB) hb); (try clear hb)) | ((with_reducible refine zq 38 ?_); refine zg (some 43) Tryd.func38 #[.string e9, .int .i64 f0] ?_; (with_reducible refine (impl_ParseNum.calls d3 e9 f0 g3 b3 _ ?s1 m2.out).mono ?_); (case s1 => exact GW.below HG.out (zB)); rintro e r1 ⟨rfl, hb⟩; refine ⟨_, rfl, ?_⟩; replace HB := zA (below_step (zB) hb); (try clear hb)) | ((with_reducible refine zq 41 ?_); refine zg (some 49) Tryd.func41 #[.string e9, .int .i64 f0] ?_; (with_reducible refine (spec_ParseNum.calls d3 e9 f0 g4 b4 _ m3.out).mono ?_); rintro e w' ⟨rfl, ⟨nd, rfl⟩⟩; refine ⟨_, rfl, ?_⟩) | ((with_reducible refine zq 42 ?_); refine zg (some 54) Tryd.func42 #[.slice A0 l0.length c0] ?_; (with_reducible refine (spec_DrawSplit.calls d3 _ _ l0 b5 a8 _ ?s1 ?s2 m4.out).mono ?_); (case s1 => repeat (first | exact (Kd.C_below d1.out (zB)) | (with_reducible refine Kd.C_alloc ?_ _) | (with_reducible refine Kd.C_drewN ?_ _) | (with_reducible refine Kd.C_drew ?_))); (case s2 => exact d2.out); rintro e r2 ⟨rfl, hb⟩; refine ⟨_, rfl, ?_⟩; replace HB := zA (below_step (zB) hb); (try clear hb)) | ((with_reducible refine zq 43 ?_); refine zg (some 58) Tryd.func43 #[.slice A0 l0.length c0] ?_; (with_reducible refine (spec_DrawSorted.calls d3 _ _ l0 a5 _ ?s1 ?s2 m5.out).mono ?_); (case s1 => exact zC (Kd.C_below d1.out HB.out)); (case s2 => exact d2.out); rintro e r3 ⟨r4, rfl, a4, hb⟩; refine ⟨_, rfl, ?_⟩; have d6 := zA (Kd.R_lower a4 (below_size (zB))); replace HB := zA (below_step (zB) hb); (try clear hb a4); obtain ⟨b0, b1, m7⟩ := Kd.R_slice d6.out; subst m7) | ((with_reducible refine zq 44 ?_); refine zg (some 60) Tryd.func44 #[.slice b0 a5.length b1] ?_; (with_reducible refine (impl_Sorted.calls _ _ a5 a3 _ ?s1 ?s2 m6.out).mono ?_); (case s1 => repeat (first | exact (Kd.R_reads' d6.out).2.2 | (with_reducible refine Kd.C_alloc ?_ _) | (with_reducible refine Kd.C_drewN ?_ _) | (with_reducible refine Kd.C_drew ?_))); (case s2 => (first | exact Nat.le_refl _ | exact (Kd.R_reads' d6.out).2.1)); rintro e r5 ⟨r6, rfl, a4, hb⟩; refine ⟨_, rfl, ?_⟩; have i7 := zA (Kd.R_lower (Kd.R_new' a4 (Kd.R_lt (zR d6.out))) (below_size (zB))); replace d6 := zA (Kd.R_elder' (zR d6.out) (Kd.R_base a4) hb); replace HB := zA (below_step (zB) hb); (try clear hb a4); obtain ⟨Acl_, ccl_, ecl_⟩ := Kd.R_slice i7.out; subst ecl_; (try simp only [impl_Sorted.clip])))
   go_loopg [16] d3 (fun kq m8 w' => ∃ (c5 : Int), m8 = .int .i64 c5 ∧ Aside0 (laws_FnWords.l0 kq l0 (wrap64 ((wrap64 (e7 * 256)) + e8)) g1 g2 g3 b3 g4 b4 b5 a8 a5 a3 c5 = some r) ∧ Aside0 (kq ≤ d3) ∧ Aside0 (Kd.R Kd.string 9 w' w.heap.size (fun k_ => some k_ ≠ ((.slice Acl_ a3.length ccl_ : Value) : Value).ownBlock) (.slice b0 a5.length b1) a5) ∧ Aside0 (Kd.R Kd.string 9 w' w.heap.size (fun k_ => some k_ ≠ ((.slice b0 a5.length b1) : Value).ownBlock) (.slice Acl_ a3.length ccl_ : Value) a3) ∧ Aside0 (Below w.heap.size w w'))
   case atStart => exact ⟨(0), zS, H', ⟨Nat.le_refl _⟩, ⟨zR (Kd.R_mono d6.out (fun _ hk => hk.2))⟩, ⟨zR (Kd.R_mono i7.out (fun _ hk => hk.2))⟩, ⟨zB⟩⟩
   case round =>
    clear H'
    try clear c1
    try clear p2
    try clear c3
    try clear c4
    try clear c6
    try clear p6
    try clear c17
    try clear p2
    obtain ⟨c5, rfl, HA, f5, a1, a0, HB⟩ := hrel
    cases gk with
    | zero => exact absurd HA.out (by simp [laws_FnWords.l0])
    | succ k2 =>
     have H := HA.out; clear HA; simp only [laws_FnWords.l0] at H; replace H := zI0 H
     rcases H with ⟨i8, H⟩ | ⟨i8, H⟩
     ·replace H := zD0 H; obtain ⟨m9, H⟩ := H; replace H := Option.bind_eq_some_iff.mp H; obtain ⟨r7, i9, H⟩ := H
      try dsimp only at H
      have n0 := zA i9; clear i9; replace H := zB0 H
      rcases H with ⟨rfl, H⟩ | ⟨rfl, H⟩
      ·have H' := zA H; clear H; have f6 : 0 ≤ (c5 : Int) := zD; have f7 : c5 < (a5.length : Int) := zD; obtain ⟨r8, n1, n2⟩ := Kd.at_string (Kd.R_reads' a1.out).2.2 c5 f6 f7; cases n1; replace f6 := eq_true f6; replace f7 := eq_true f7; obtain ⟨n3, r9, j1⟩ := Kd.R_slice a0.out
       (first | subst j1 | (injection j1 with f1_ f2_ f3_; have c7 := f1_.symm; have c8 := f3_.symm; clear f1_ f2_ f3_; subst c7; subst c8))
       go_wp2_with (first | ((with_reducible refine zq 45 ?_); refine zg (some 72) Tryd.func45 #[.slice n3 a3.length a3.length, .string (rdOf ByteArray.empty a5 c5)] ?_; (with_reducible refine (laws_hasText.calls k2 _ _ a3 (rdOf ByteArray.empty a5 c5) true _ ?s1 ?s2 n0.out).mono ?_); (case s1 => repeat (first | exact (Kd.R_reads' a0.out).2.2 | (with_reducible refine Kd.C_alloc ?_ _) | (with_reducible refine Kd.C_drewN ?_ _) | (with_reducible refine Kd.C_drew ?_))); (case s2 => (first | exact Nat.le_refl _ | exact (Kd.R_reads' a0.out).2.1)); rintro e w' ⟨rfl, ⟨nd, rfl⟩⟩; refine ⟨_, rfl, ?_⟩))
       go_roundg k2
       case measure => have := f3.out; have := f5.out; omega
       case rel => exact ⟨(wrap64 (c5 + 1)), zS, H', ⟨by have := f3.out; have := f5.out; omega⟩, ⟨zR a1.out⟩, ⟨zR a0.out⟩, ⟨zB⟩⟩
      exact absurd H (by simp)
     have H' := zA H; clear H
     go_wp2
     go_loopg [17] k2 (fun kq n4 w' => ∃ (c9 : Int), n4 = .int .i64 c9 ∧ Aside0 (laws_FnWords.l1 kq l0 (wrap64 ((wrap64 (e7 * 256)) + e8)) g1 g2 g3 b3 g4 b4 b5 a8 a5 a3 c9 = some r) ∧ Aside0 (kq ≤ k2) ∧ Aside0 (Kd.R Kd.string 9 w' w.heap.size (fun k_ => some k_ ≠ ((.slice Acl_ a3.length ccl_ : Value) : Value).ownBlock) (.slice b0 a5.length b1) a5) ∧ Aside0 (Kd.R Kd.string 9 w' w.heap.size (fun k_ => some k_ ≠ ((.slice b0 a5.length b1) : Value).ownBlock) (.slice Acl_ a3.length ccl_ : Value) a3) ∧ Aside0 (Below w.heap.size w w'))
     case atStart => exact ⟨(0), zS, H', ⟨Nat.le_refl _⟩, ⟨zR a1.out⟩, ⟨zR a0.out⟩, ⟨zB⟩⟩
     case round =>
      clear H'
      try clear c1
      try clear c2
      try clear p2
      try clear q2
      try clear hx2
      try clear c3
      try clear c4
      try clear c6
      try clear p6
      try clear c17
      try clear c23
      try clear i8
      try clear c24
      try clear m9
      try clear c26
      try clear n2
      try clear p2
      try clear f6
      try clear p6
      try clear f7
      obtain ⟨c9, rfl, HA, j2, a1, a0, HB⟩ := hrel
      cases gk with
      | zero => exact absurd HA.out (by simp [laws_FnWords.l1])
      | succ k3 =>
       have H := HA.out; clear HA; simp only [laws_FnWords.l1] at H; replace H := zI0 H
       rcases H with ⟨n5, H⟩ | ⟨n5, H⟩
       ·replace H := zD0 H; obtain ⟨t0, H⟩ := H; replace H := Option.bind_eq_some_iff.mp H; obtain ⟨t1, j3, H⟩ := H
        try dsimp only at H
        have n6 := zA j3; clear j3; replace H := zB0 H
        rcases H with ⟨rfl, H⟩ | ⟨rfl, H⟩
        ·have H' := zA H; clear H; obtain ⟨t2, t3, j4⟩ := Kd.R_slice a0.out
         (first | subst j4 | (injection j4 with f1_ f2_ f3_; have c7 := f1_.symm; have c8 := f3_.symm; clear f1_ f2_ f3_; subst c7; subst c8))
         have g5 : 0 ≤ (c9 : Int) := zD; have g6 : c9 < (a3.length : Int) := zD; obtain ⟨t4, n7, t5⟩ := Kd.at_string (Kd.R_reads' a0.out).2.2 c9 g5 g6; cases n7; replace g5 := eq_true g5; replace g6 := eq_true g6
         go_wp2_with (first | ((with_reducible refine zq 45 ?_); refine zg (some 85) Tryd.func45 #[.slice b0 a5.length b1, .string (rdOf ByteArray.empty a3 c9)] ?_; (with_reducible refine (laws_hasText.calls k3 _ _ a5 (rdOf ByteArray.empty a3 c9) true _ ?s1 ?s2 n6.out).mono ?_); (case s1 => repeat (first | exact (Kd.R_reads' a1.out).2.2 | (with_reducible refine Kd.C_alloc ?_ _) | (with_reducible refine Kd.C_drewN ?_ _) | (with_reducible refine Kd.C_drew ?_))); (case s2 => (first | exact Nat.le_refl _ | exact (Kd.R_reads' a1.out).2.1)); rintro e w' ⟨rfl, ⟨nd, rfl⟩⟩; refine ⟨_, rfl, ?_⟩))
         go_roundg k3
         case measure => have := f3.out; have := f5.out; have := j2.out; omega
         case rel => exact ⟨(wrap64 (c9 + 1)), zS, H', ⟨by have := f3.out; have := f5.out; have := j2.out; omega⟩, ⟨zR a1.out⟩, ⟨zR a0.out⟩, ⟨zB⟩⟩
        exact absurd H (by simp)
       replace H := Option.bind_eq_some_iff.mp H; obtain ⟨⟨a9, d7⟩, j5, H⟩ := H
       try dsimp only at H
       have n8 := zA j5; clear j5; replace H := Option.bind_eq_some_iff.mp H; obtain ⟨d8, j6, H⟩ := H
       try dsimp only at H
       have n9 := zA j6; clear j6; replace H := zB0 H
       rcases H with ⟨rfl, H⟩ | ⟨rfl, H⟩
       ·replace H := zI1 H
        rcases H with ⟨d9, H⟩ | ⟨d9, H⟩
        ·have o0 := beq_iff_eq.mpr d9; have o1 := bne_eq_false_iff_eq.mpr d9; clear d9; replace H := zI1 H
         rcases H with ⟨b6, H⟩ | ⟨b6, H⟩
         ·have o2 : (b3 == b4) = true := b6
          (try (have o3 : decide (b3 = b4) = true := by simpa using b6))
          (try (have o4 : (b3 == b4) = true := by simpa using b6))
          clear b6; replace H := zI1 H
          rcases H with ⟨e0, H⟩ | ⟨e0, H⟩
          ·have o5 := beq_iff_eq.mpr e0; have o6 := bne_eq_false_iff_eq.mpr e0; clear e0; replace H := Option.bind_eq_some_iff.mp H; obtain ⟨d4, j7, H⟩ := H
           try dsimp only at H
           have g7 := zA j7; clear j7; obtain ⟨e1, g8⟩ : ∃ y_ : List Int, y_ = (([a8] : List Int)) := ⟨_, rfl⟩; replace H : ((impl_Join.f d4 (strOfNums e1)).bind fun g9 => (if g9.toList = b5.toList then ((laws_ascending.f k3 a3).bind fun j8 => (if j8 = true then ((impl_Sorted.f a3).bind fun e2 => ((laws_sameTexts.f k3 e2 a3).bind fun j9 => (if j9 = true then ((impl_Join.f a9 d7).bind fun h0 => ((spec_Join.f k3 a9 d7).bind fun h1 => (if h0.toList = h1.toList then ((impl_NumText.f d8).bind fun h2 => ((spec_NumText.f k3 d8).bind fun h3 => (some (h2.toList == h3.toList)))) else (none)))) else (none)))) else (none))) else (none))) = some r := zY g8 H; have f8 := zA g8; clear g8; replace H := Option.bind_eq_some_iff.mp H; obtain ⟨g9, k0, H⟩ := H
           try dsimp only at H
           have o7 := zA k0; clear k0; replace H := zI1 H
           rcases H with ⟨e3, H⟩ | ⟨e3, H⟩
           ·have o8 := beq_iff_eq.mpr e3; have o9 := bne_eq_false_iff_eq.mpr e3; clear e3; replace H := Option.bind_eq_some_iff.mp H; obtain ⟨j8, k1, H⟩ := H
            try dsimp only at H
            have p0 := zA k1; clear k1; replace H := zB0 H
            rcases H with ⟨rfl, H⟩ | ⟨rfl, H⟩
            ·replace H := Option.bind_eq_some_iff.mp H; obtain ⟨e2, k4, H⟩ := H
             try dsimp only at H
             have p1 := zA k4; clear k4; replace H := Option.bind_eq_some_iff.mp H; obtain ⟨j9, k5, H⟩ := H
             try dsimp only at H
             have p3 := zA k5; clear k5; replace H := zB0 H
             rcases H with ⟨rfl, H⟩ | ⟨rfl, H⟩
             ·replace H := Option.bind_eq_some_iff.mp H; obtain ⟨h0, k6, H⟩ := H
              try dsimp only at H
              have p4 := zA k6; clear k6; replace H := Option.bind_eq_some_iff.mp H; obtain ⟨h1, k7, H⟩ := H
              try dsimp only at H
              have p5 := zA k7; clear k7; replace H := zI1 H
              rcases H with ⟨e4, H⟩ | ⟨e4, H⟩
              ·have p7 := beq_iff_eq.mpr e4; have p8 := bne_eq_false_iff_eq.mpr e4; clear e4; replace H := Option.bind_eq_some_iff.mp H; obtain ⟨h2, k8, H⟩ := H
               try dsimp only at H
               have f4 := zA k8; clear k8; replace H := Option.bind_eq_some_iff.mp H; obtain ⟨h3, k9, H⟩ := H
               try dsimp only at H
               have p9 := zA k9; clear k9; obtain rfl := zm H; obtain ⟨b2, d5, l2⟩ := Kd.R_slice a0.out
               (first | subst l2 | (injection l2 with f1_ f2_ f3_; have c7 := f1_.symm; have c8 := f3_.symm; clear f1_ f2_ f3_; subst c7; subst c8))
               try go_wp2_with (first | ((with_reducible refine zq 46 ?_); refine zg (some 89) Tryd.func46 #[.slice A0 l0.length c0] ?_; (with_reducible refine (spec_DrawJoin.calls k3 _ _ l0 a9 d7 _ ?s1 ?s2 n8.out).mono ?_); (case s1 => exact zC (Kd.C_below d1.out HB.out)); (case s2 => exact d2.out); rintro e t6 ⟨t7, rfl, a4, hb⟩; refine ⟨_, rfl, ?_⟩; have a2 := zA (Kd.R_lower (Kd.R_new' (Kd.R_new' a4 (Kd.R_lt (zR a1.out))) (Kd.R_lt (zR a0.out))) (below_size (zB))); replace a1 := zA (Kd.R_elder' (zR a1.out) (Kd.R_base a4) hb); replace a0 := zA (Kd.R_elder' (zR a0.out) (Kd.R_base a4) hb); replace HB := zA (below_step (zB) hb); (try clear hb a4)) | ((with_reducible refine zq 47 ?_); refine zg (some 93) Tryd.func47 #[.slice A0 l0.length c0] ?_; (with_reducible refine (spec_DrawNumText.calls k3 _ _ l0 d8 _ ?s1 ?s2 n9.out).mono ?_); (case s1 => exact zC (Kd.C_below d1.out HB.out)); (case s2 => exact d2.out); rintro e q0 ⟨rfl, hb⟩; refine ⟨_, rfl, ?_⟩; replace a1 := zr a1 hb; replace a0 := zr a0 hb; replace a2 := zr a2 hb; replace HB := zA (below_step (zB) hb); (try clear hb); obtain ⟨b7, b8, q1⟩ := Kd.R_slice a2.out; subst q1))
               replace a1 := zA (Kd.R_drew a1.out); replace a0 := zA (Kd.R_drew a0.out); replace a2 := zA (Kd.R_drew a2.out); replace HB := zA (below_drew1 HB.out)
               refine start_ (n := 54) (S := fun w' => True) (ds := []) (Array.replicate 54 false) (by kernel_rfl) rfl rfl trivial (fun hHeld => ?_); refine with_tabW laws_FnWords.tab23 laws_FnWords.bits23 (fun HT_ HW_ => ?_)
               generalize q0.drew = t8 at a1 a0 a2 HB hHeld ⊢; refine zp 0 94 ?_; refine zp 1 95 ?_; refine zp 2 96 ?_; refine zp 3 97 ?_; refine zp 4 98 ?_; refine zp 5 99 ?_; refine zp 6 100 ?_; refine zp 7 101 ?_; refine zp 8 102 ?_; refine zp 9 103 ?_; refine zp 10 104 ?_; refine zp 11 105 ?_; refine zp 12 106 ?_; refine zp 13 107 ?_; refine zp 14 108 ?_; refine zp 15 109 ?_; refine zp 16 110 ?_; refine zp 17 111 ?_; refine zp 18 112 ?_; refine zp 20 114 ?_; refine zp 24 118 ?_
               refine join_ (σ := Value × Value) 30 #[true, true, true, true, true, true, true, true, true, true, true, true, true, true, true, true, true, true, true, true, true, true, true, false, true, false, false, false, false, false, false, false, false, false, false, false, false, false, false, false, false, false, false, false, false, false, false, false, false, false, false, false, false, false] (fun s_ => [(113, s_.1), (115, s_.2), (116, .string (strOfNums e1))]) (fun s_ w' => (Kd.R Kd.string 9 w' w.heap.size (fun k_ => some k_ ≠ (s_.1 : Value).ownBlock ∧ some k_ ≠ (.slice b0 a5.length b1 : Value).ownBlock ∧ some k_ ≠ (.slice b2 a3.length d5 : Value).ownBlock) (.slice b7 a9.length b8) a9) ∧ (Kd.R Kd.string 9 w' w.heap.size (fun k_ => some k_ ≠ (.slice b7 a9.length b8 : Value).ownBlock ∧ some k_ ≠ (.slice b0 a5.length b1 : Value).ownBlock ∧ some k_ ≠ (.slice b2 a3.length d5 : Value).ownBlock) s_.1 d4) ∧ (Kd.R (Kd.int .u8) 5 w' w.heap.size (fun _ => True) s_.2 e1) ∧ (Kd.R Kd.string 9 w' w.heap.size (fun k_ => some k_ ≠ (.slice b7 a9.length b8 : Value).ownBlock ∧ some k_ ≠ (s_.1 : Value).ownBlock ∧ some k_ ≠ (.slice b2 a3.length d5 : Value).ownBlock) (.slice b0 a5.length b1) a5) ∧ (Kd.R Kd.string 9 w' w.heap.size (fun k_ => some k_ ≠ (.slice b7 a9.length b8 : Value).ownBlock ∧ some k_ ≠ (s_.1 : Value).ownBlock ∧ some k_ ≠ (.slice b0 a5.length b1 : Value).ownBlock) (.slice b2 a3.length d5) a3) ∧ (Below w.heap.size w w')) ?_ ?_
               rotate_left
               ·intro hCont
                refine two_ (i := 19) (j := 21) (Ni := some 113) (Nj := some 115) #[true, true, true, true, true, true, true, true, true, true, true, true, true, true, true, true, true, true, true, true, true, false, false, false, true, false, false, false, false, false, false, false, false, false, false, false, false, false, false, false, false, false, false, false, false, false, false, false, false, false, false, false, false, false] #[true, true, true, true, true, true, true, true, true, true, true, true, true, true, true, true, true, true, true, false, true, true, false, false, true, false, false, false, false, false, false, false, false, false, false, false, false, false, false, false, false, false, false, false, false, false, false, false, false, false, false, false, false, false] rfl rfl rfl rfl (two_of HT_.out (by kernel_rfl)) (by decide) (by decide) (fun K hK => ?_) (fun K hK => ?_)
                ·skip
                 refine goes_ Tryd.func49 (by kernel_rfl) rfl #[.string b5, .int .u8 a8] (by rfl) rfl rfl zM ?_
                 with_reducible refine (impl_Split.calls b5 a8 d4 _ ?s1 g7.out).mono ?_
                 (case s1 => exact GW.below HG.out (zB))
                 rintro e q3 ⟨b9, rfl, a4, hb⟩
                 refine ⟨_, rfl, ?_⟩
                 have a6 := zA (Kd.R_lower (Kd.R_new' (Kd.R_new' (Kd.R_new' a4 (Kd.R_lt (zR a1.out))) (Kd.R_lt (zR a0.out))) (Kd.R_lt (zR a2.out))) (below_size (zB))); replace a1 := zA (Kd.R_elder' (zR a1.out) (Kd.R_base a4) hb); replace a0 := zA (Kd.R_elder' (zR a0.out) (Kd.R_base a4) hb); replace a2 := zA (Kd.R_elder' (zR a2.out) (Kd.R_base a4) hb); replace HB := zA (below_step (zB) hb)
                 (try clear hb a4)
                 refine hK.out _ _ trivial (fun hHeld => ?_)
                 clear hK K; refine zn ?_
                 refine zo 21 (some 115) fun K hK => ?_
                 refine Kd.R_lit_step (Kd.int .u8) _ 5 ?hg (N := 115) ?hd (xs := ([a8] : List Int)) (inner := [.int .u8 a8]) (ok := fun _ => True) ?hr ?hp (fun _ hk => hk) trivial (Below.refl _ _) (Nat.le_refl _) (by simp) ?_; (case hd => rfl); (case hg => rfl); (case hr => first | (go_simp; done) | (go_simp; rfl)); (case hp => exact (Reps.one (show Kd.M (Kd.int .u8) _ _ _ a8 [.int .u8 a8] from rfl) (Reps.none _ _)))
                 intro e5 t9 f1 hb hg_ hnew_
                 clear hg_ hnew_
                 (first | rw [← f8.out] at f1 | (simp only [Int.reduceToNat] at f1; rw [← f8.out] at f1))
                 replace a1 := zr a1 hb; replace a0 := zr a0 hb; replace a2 := zr a2 hb; replace a6 := zr a6 hb; have a7 := zA (Kd.R_lower f1 (below_size (zB))); replace HB := zA (below_step (zB) hb); clear hb f1
                 refine hK.out _ _ trivial (fun hHeld => ?_)
                 clear hK K; refine zn ?_
                 refine zo 22 (some 116) fun K hK => ?_
                 have h4 := own_string (P := Tryd.prog) Tryd.underlying36 Tryd.underlying5 Tryd.underlying9 (Kd.own_of_R a7.out)
                 refine value_ (w1 := ?_) (v := ?_) (by rfl) rfl ?_ ?_
                 rotate_left 2
                 ·go_simp
                  constructor
                  ·rfl
                  ·rfl
                 clear h4
                 refine hK.out _ _ trivial (fun hHeld => ?_)
                 clear hK K; refine zn ?_
                 exact norm_ (by simp only [putAll, Act.put, zT]) (hCont (b9, e5) _ ⟨(zR (Kd.R_mono a2.out (fun _ hk => ⟨hk.2, ⟨hk.1.1.2, hk.1.2⟩⟩))), (zR (Kd.R_mono a6.out (fun _ hk => ⟨hk.2, ⟨hk.1.1.2, hk.1.2⟩⟩))), (zR a7.out), (zR (Kd.R_mono a1.out (fun _ hk => ⟨hk.1.2, ⟨hk.2, hk.1.1⟩⟩))), (zR (Kd.R_mono a0.out (fun _ hk => ⟨hk.1.2, ⟨hk.2, hk.1.1⟩⟩))), (zB)⟩)
                ·skip
                 refine Kd.R_lit_step (Kd.int .u8) _ 5 ?hg (N := 115) ?hd (xs := ([a8] : List Int)) (inner := [.int .u8 a8]) (ok := fun _ => True) ?hr ?hp (fun _ hk => hk) trivial (Below.refl _ _) (Nat.le_refl _) (by simp) ?_; (case hd => rfl); (case hg => rfl); (case hr => first | (go_simp; done) | (go_simp; rfl)); (case hp => exact (Reps.one (show Kd.M (Kd.int .u8) _ _ _ a8 [.int .u8 a8] from rfl) (Reps.none _ _)))
                 intro e5 q3 f2 hb hg_ hnew_
                 clear hg_ hnew_
                 (first | rw [← f8.out] at f2 | (simp only [Int.reduceToNat] at f2; rw [← f8.out] at f2))
                 replace a1 := zr a1 hb; replace a0 := zr a0 hb; replace a2 := zr a2 hb; have a7 := zA (Kd.R_lower f2 (below_size (zB))); replace HB := zA (below_step (zB) hb); clear hb f2
                 refine hK.out _ _ trivial (fun hHeld => ?_)
                 clear hK K; refine zn ?_
                 refine two_ (i := 19) (j := 22) (Ni := some 113) (Nj := some 116) #[true, true, true, true, true, true, true, true, true, true, true, true, true, true, true, true, true, true, true, true, true, true, false, false, true, false, false, false, false, false, false, false, false, false, false, false, false, false, false, false, false, false, false, false, false, false, false, false, false, false, false, false, false, false] #[true, true, true, true, true, true, true, true, true, true, true, true, true, true, true, true, true, true, true, false, true, true, true, false, true, false, false, false, false, false, false, false, false, false, false, false, false, false, false, false, false, false, false, false, false, false, false, false, false, false, false, false, false, false] rfl rfl rfl rfl (two_of HT_.out (by kernel_rfl)) (by decide) (by decide) (fun K hK => ?_) (fun K hK => ?_)
                 ·skip
                  refine goes_ Tryd.func49 (by kernel_rfl) rfl #[.string b5, .int .u8 a8] (by rfl) rfl rfl zM ?_
                  with_reducible refine (impl_Split.calls b5 a8 d4 _ ?s1 g7.out).mono ?_
                  (case s1 => exact GW.below HG.out (zB))
                  rintro e v0 ⟨b9, rfl, a4, hb⟩
                  refine ⟨_, rfl, ?_⟩
                  replace a7 := zr a7 hb; have a6 := zA (Kd.R_lower (Kd.R_new' (Kd.R_new' (Kd.R_new' a4 (Kd.R_lt (zR a1.out))) (Kd.R_lt (zR a0.out))) (Kd.R_lt (zR a2.out))) (below_size (zB))); replace a1 := zA (Kd.R_elder' (zR a1.out) (Kd.R_base a4) hb); replace a0 := zA (Kd.R_elder' (zR a0.out) (Kd.R_base a4) hb); replace a2 := zA (Kd.R_elder' (zR a2.out) (Kd.R_base a4) hb); replace HB := zA (below_step (zB) hb)
                  (try clear hb a4)
                  refine hK.out _ _ trivial (fun hHeld => ?_)
                  clear hK K; refine zn ?_
                  refine zo 22 (some 116) fun K hK => ?_
                  have h4 := own_string (P := Tryd.prog) Tryd.underlying36 Tryd.underlying5 Tryd.underlying9 (Kd.own_of_R a7.out)
                  refine value_ (w1 := ?_) (v := ?_) (by rfl) rfl ?_ ?_
                  rotate_left 2
                  ·go_simp
                   constructor
                   ·rfl
                   ·rfl
                  clear h4
                  refine hK.out _ _ trivial (fun hHeld => ?_)
                  clear hK K; refine zn ?_
                  exact norm_ (by simp only [putAll, Act.put, zT]) (hCont (b9, e5) _ ⟨(zR (Kd.R_mono a2.out (fun _ hk => ⟨hk.2, ⟨hk.1.1.2, hk.1.2⟩⟩))), (zR (Kd.R_mono a6.out (fun _ hk => ⟨hk.2, ⟨hk.1.1.2, hk.1.2⟩⟩))), (zR a7.out), (zR (Kd.R_mono a1.out (fun _ hk => ⟨hk.1.2, ⟨hk.2, hk.1.1⟩⟩))), (zR (Kd.R_mono a0.out (fun _ hk => ⟨hk.1.2, ⟨hk.2, hk.1.1⟩⟩))), (zB)⟩)
                 ·skip
                  have q4 := own_string (P := Tryd.prog) Tryd.underlying36 Tryd.underlying5 Tryd.underlying9 (Kd.own_of_R a7.out)
                  refine value_ (w1 := ?_) (v := ?_) (by rfl) rfl ?_ ?_
                  rotate_left 2
                  ·go_simp
                   constructor
                   ·rfl
                   ·rfl
                  clear q4
                  refine hK.out _ _ trivial (fun hHeld => ?_)
                  clear hK K; refine zn ?_
                  refine zo 19 (some 113) fun K hK => ?_
                  refine goes_ Tryd.func49 (by kernel_rfl) rfl #[.string b5, .int .u8 a8] (by rfl) rfl rfl zM ?_
                  with_reducible refine (impl_Split.calls b5 a8 d4 _ ?s1 g7.out).mono ?_
                  (case s1 => exact GW.below HG.out (zB))
                  rintro e v1 ⟨b9, rfl, a4, hb⟩
                  refine ⟨_, rfl, ?_⟩
                  replace a7 := zr a7 hb; have a6 := zA (Kd.R_lower (Kd.R_new' (Kd.R_new' (Kd.R_new' a4 (Kd.R_lt (zR a1.out))) (Kd.R_lt (zR a0.out))) (Kd.R_lt (zR a2.out))) (below_size (zB))); replace a1 := zA (Kd.R_elder' (zR a1.out) (Kd.R_base a4) hb); replace a0 := zA (Kd.R_elder' (zR a0.out) (Kd.R_base a4) hb); replace a2 := zA (Kd.R_elder' (zR a2.out) (Kd.R_base a4) hb); replace HB := zA (below_step (zB) hb)
                  (try clear hb a4)
                  refine hK.out _ _ trivial (fun hHeld => ?_)
                  clear hK K; refine zn ?_
                  exact norm_ (by simp only [putAll, Act.put, zT]) (hCont (b9, e5) _ ⟨(zR (Kd.R_mono a2.out (fun _ hk => ⟨hk.2, ⟨hk.1.1.2, hk.1.2⟩⟩))), (zR (Kd.R_mono a6.out (fun _ hk => ⟨hk.2, ⟨hk.1.1.2, hk.1.2⟩⟩))), (zR a7.out), (zR (Kd.R_mono a1.out (fun _ hk => ⟨hk.1.2, ⟨hk.2, hk.1.1⟩⟩))), (zR (Kd.R_mono a0.out (fun _ hk => ⟨hk.1.2, ⟨hk.2, hk.1.1⟩⟩))), (zB)⟩)
               rintro ⟨b9, e5⟩ e6 ⟨l3, l4, l5, l6, l7, l8⟩
               replace a2 : Aside0 (Kd.R Kd.string 9 e6 w.heap.size (fun k_ => some k_ ≠ (b9 : Value).ownBlock ∧ some k_ ≠ (.slice b0 a5.length b1 : Value).ownBlock ∧ some k_ ≠ (.slice b2 a3.length d5 : Value).ownBlock) (.slice b7 a9.length b8) a9) := ⟨l3⟩; have a6 : Aside0 (Kd.R Kd.string 9 e6 w.heap.size (fun k_ => some k_ ≠ (.slice b7 a9.length b8 : Value).ownBlock ∧ some k_ ≠ (.slice b0 a5.length b1 : Value).ownBlock ∧ some k_ ≠ (.slice b2 a3.length d5 : Value).ownBlock) b9 d4) := ⟨l4⟩; have a7 : Aside0 (Kd.R (Kd.int .u8) 5 e6 w.heap.size (fun _ => True) e5 e1) := ⟨l5⟩; replace a1 : Aside0 (Kd.R Kd.string 9 e6 w.heap.size (fun k_ => some k_ ≠ (.slice b7 a9.length b8 : Value).ownBlock ∧ some k_ ≠ (b9 : Value).ownBlock ∧ some k_ ≠ (.slice b2 a3.length d5 : Value).ownBlock) (.slice b0 a5.length b1) a5) := ⟨l6⟩; replace a0 : Aside0 (Kd.R Kd.string 9 e6 w.heap.size (fun k_ => some k_ ≠ (.slice b7 a9.length b8 : Value).ownBlock ∧ some k_ ≠ (b9 : Value).ownBlock ∧ some k_ ≠ (.slice b0 a5.length b1 : Value).ownBlock) (.slice b2 a3.length d5) a3) := ⟨l7⟩; replace HB : Aside0 (Below w.heap.size w e6) := ⟨l8⟩; clear l3 l4 l5 l6 l7 l8; have hHeld := trivial; obtain ⟨q5, q6, l9⟩ := Kd.R_slice a6.out
               (first | subst l9 | (injection l9 with f1_ f2_ f3_; have c7 := f1_.symm; have c8 := f3_.symm; clear f1_ f2_ f3_; subst c7; subst c8))
               refine norm_ (a' := ?_) ?_ ?_
               rotate_left
               ·simp only [putAll, Act.put, zT]
                rfl
               refine zo 23 (some 117) fun K hK => ?_
               refine goes_ Tryd.func48 (by kernel_rfl) rfl #[.slice q5 d4.length q6, .string (strOfNums e1)] (by rfl) rfl rfl zM ?_
               with_reducible refine (impl_Join.calls _ _ d4 (strOfNums e1) g9 _ ?s1 ?s2 o7.out).mono ?_
               (case s1 => repeat (first | exact (Kd.R_reads' a6.out).2.2 | (with_reducible refine Kd.C_alloc ?_ _) | (with_reducible refine Kd.C_drewN ?_ _) | (with_reducible refine Kd.C_drew ?_)))
               (case s2 => (first | exact Nat.le_refl _ | exact (Kd.R_reads' a6.out).2.1))
               rintro e v2 ⟨rfl, hb⟩
               refine ⟨_, rfl, ?_⟩
               replace a1 := zr a1 hb; replace a0 := zr a0 hb; replace a2 := zr a2 hb; replace a6 := zr a6 hb; replace a7 := zr a7 hb; replace HB := zA (below_step (zB) hb)
               (try clear hb)
               refine hK.out _ _ trivial (fun hHeld => ?_)
               clear hK K; refine zn ?_; refine zp 25 119 ?_; refine zp 26 120 ?_; refine zp 27 121 ?_; refine zp 28 122 ?_
               refine zo 29 (some 123) fun K hK => ?_
               refine goes_ Tryd.func35 (by kernel_rfl) rfl #[.slice b2 a3.length a3.length] (by rfl) rfl rfl zM ?_
               with_reducible refine (laws_ascending.calls k3 _ _ a3 true _ ?s1 ?s2 p0.out).mono ?_
               (case s1 => repeat (first | exact (Kd.R_reads' a0.out).2.2 | (with_reducible refine Kd.C_alloc ?_ _) | (with_reducible refine Kd.C_drewN ?_ _) | (with_reducible refine Kd.C_drew ?_)))
               (case s2 => (first | exact Nat.le_refl _ | exact (Kd.R_reads' a0.out).2.1))
               rintro e w' ⟨rfl, ⟨nd, rfl⟩⟩
               refine ⟨_, rfl, ?_⟩
               refine hK.out _ _ trivial (fun hHeld => ?_)
               clear hK K; refine zn ?_; refine zp 30 124 ?_; refine zp 31 125 ?_; refine zp 32 126 ?_; refine zp 34 128 ?_
               refine zo 33 (some 127) fun K hK => ?_
               refine goes_ Tryd.func44 (by kernel_rfl) rfl #[.slice b2 a3.length a3.length] (by rfl) rfl rfl zM ?_
               with_reducible refine (impl_Sorted.calls _ _ a3 e2 _ ?s1 ?s2 p1.out).mono ?_
               (case s1 => repeat (first | exact (Kd.R_reads' a0.out).2.2 | (with_reducible refine Kd.C_alloc ?_ _) | (with_reducible refine Kd.C_drewN ?_ _) | (with_reducible refine Kd.C_drew ?_)))
               (case s2 => (first | exact Nat.le_refl _ | exact (Kd.R_reads' a0.out).2.1))
               rintro e v3 ⟨v4, rfl, a4, hb⟩
               refine ⟨_, rfl, ?_⟩
               replace a7 := zr a7 hb; have d0 := zA (Kd.R_lower (Kd.R_new' (Kd.R_new' (Kd.R_new' (Kd.R_new' a4 (Kd.R_lt (zR a1.out))) (Kd.R_lt (zR a0.out))) (Kd.R_lt (zR a2.out))) (Kd.R_lt (zR a6.out))) (below_size (zB))); replace a1 := zA (Kd.R_elder' (zR a1.out) (Kd.R_base a4) hb); replace a0 := zA (Kd.R_elder' (zR a0.out) (Kd.R_base a4) hb); replace a2 := zA (Kd.R_elder' (zR a2.out) (Kd.R_base a4) hb); replace a6 := zA (Kd.R_elder' (zR a6.out) (Kd.R_base a4) hb); replace HB := zA (below_step (zB) hb)
               (try clear hb a4)
               obtain ⟨q7, v5, m0⟩ := Kd.R_slice d0.out
               (first | subst m0 | (injection m0 with f1_ f2_ f3_; have c7 := f1_.symm; have c8 := f3_.symm; clear f1_ f2_ f3_; subst c7; subst c8))
               refine hK.out _ _ trivial (fun hHeld => ?_)
               clear hK K; refine zn ?_
               refine zo 35 (some 129) fun K hK => ?_
               refine goes_ Tryd.func33 (by kernel_rfl) rfl #[.slice q7 e2.length e2.length, .slice b2 a3.length a3.length] (by rfl) rfl rfl zM ?_
               with_reducible refine (laws_sameTexts.calls k3 _ _ e2 _ _ a3 true _ ?s1 ?s2 ?s3 ?s4 p3.out).mono ?_
               (case s1 => repeat (first | exact (Kd.R_reads' d0.out).2.2 | (with_reducible refine Kd.C_alloc ?_ _) | (with_reducible refine Kd.C_drewN ?_ _) | (with_reducible refine Kd.C_drew ?_)))
               (case s2 => (first | exact Nat.le_refl _ | exact (Kd.R_reads' d0.out).2.1))
               (case s3 => repeat (first | exact (Kd.R_reads' a0.out).2.2 | (with_reducible refine Kd.C_alloc ?_ _) | (with_reducible refine Kd.C_drewN ?_ _) | (with_reducible refine Kd.C_drew ?_)))
               (case s4 => (first | exact Nat.le_refl _ | exact (Kd.R_reads' a0.out).2.1))
               rintro e w' ⟨rfl, ⟨nd, rfl⟩⟩
               refine ⟨_, rfl, ?_⟩
               refine hK.out _ _ trivial (fun hHeld => ?_)
               clear hK K; refine zn ?_; refine zp 36 130 ?_; refine zp 37 131 ?_; refine zp 38 132 ?_; refine zp 39 133 ?_; refine zp 41 135 ?_; refine zp 42 136 ?_
               refine zo 40 (some 134) fun K hK => ?_
               refine goes_ Tryd.func48 (by kernel_rfl) rfl #[.slice b7 a9.length b8, .string d7] (by rfl) rfl rfl zM ?_
               with_reducible refine (impl_Join.calls _ _ a9 d7 h0 _ ?s1 ?s2 p4.out).mono ?_
               (case s1 => repeat (first | exact (Kd.R_reads' a2.out).2.2 | (with_reducible refine Kd.C_alloc ?_ _) | (with_reducible refine Kd.C_drewN ?_ _) | (with_reducible refine Kd.C_drew ?_)))
               (case s2 => (first | exact Nat.le_refl _ | exact (Kd.R_reads' a2.out).2.1))
               rintro e v6 ⟨rfl, hb⟩
               refine ⟨_, rfl, ?_⟩
               replace a1 := zr a1 hb; replace a0 := zr a0 hb; replace a2 := zr a2 hb; replace a6 := zr a6 hb; replace a7 := zr a7 hb; replace d0 := zr d0 hb; replace HB := zA (below_step (zB) hb)
               (try clear hb)
               refine hK.out _ _ trivial (fun hHeld => ?_)
               clear hK K; refine zn ?_
               refine zo 43 (some 137) fun K hK => ?_
               refine goes_ Tryd.func50 (by kernel_rfl) rfl #[.slice b7 a9.length b8, .string d7] (by rfl) rfl rfl zM ?_
               with_reducible refine (spec_Join.calls k3 _ _ a9 d7 h1 _ ?s1 ?s2 p5.out).mono ?_
               (case s1 => repeat (first | exact (Kd.R_reads' a2.out).2.2 | (with_reducible refine Kd.C_alloc ?_ _) | (with_reducible refine Kd.C_drewN ?_ _) | (with_reducible refine Kd.C_drew ?_)))
               (case s2 => (first | exact Nat.le_refl _ | exact (Kd.R_reads' a2.out).2.1))
               rintro e w' ⟨rfl, ⟨nd, rfl⟩⟩
               refine ⟨_, rfl, ?_⟩
               refine hK.out _ _ trivial (fun hHeld => ?_)
               clear hK K; refine zn ?_; refine zp 44 138 ?_; refine zp 45 139 ?_; refine zp 46 140 ?_; refine zp 47 141 ?_; refine zp 49 143 ?_
               refine zo 48 (some 142) fun K hK => ?_
               refine goes_ Tryd.func39 (by kernel_rfl) rfl #[.int .i64 d8] (by rfl) rfl rfl zM ?_
               with_reducible refine (impl_NumText.calls d8 h2 _ ?s1 f4.out).mono ?_
               (case s1 => exact GW.below HG.out (zB))
               rintro e v7 ⟨rfl, hb⟩
               refine ⟨_, rfl, ?_⟩
               replace a1 := zr a1 hb; replace a0 := zr a0 hb; replace a2 := zr a2 hb; replace a6 := zr a6 hb; replace a7 := zr a7 hb; replace d0 := zr d0 hb; replace HB := zA (below_step (zB) hb)
               (try clear hb)
               refine hK.out _ _ trivial (fun hHeld => ?_)
               clear hK K; refine zn ?_
               refine zo 50 (some 144) fun K hK => ?_
               refine goes_ Tryd.func51 (by kernel_rfl) rfl #[.int .i64 d8] (by rfl) rfl rfl zM ?_
               with_reducible refine (spec_NumText.calls k3 d8 h3 _ p9.out).mono ?_
               rintro e v8 ⟨rfl, hb⟩
               refine ⟨_, rfl, ?_⟩
               replace a1 := zr a1 hb; replace a0 := zr a0 hb; replace a2 := zr a2 hb; replace a6 := zr a6 hb; replace a7 := zr a7 hb; replace d0 := zr d0 hb; replace HB := zA (below_step (zB) hb)
               (try clear hb)
               refine hK.out _ _ trivial (fun hHeld => ?_)
               clear hK K; refine zn ?_; refine zp 51 145 ?_; refine zp 52 146 ?_; refine zp 53 2 ?_
               refine done_ (done_of HT_.out (by kernel_rfl)) ?_
               try go_wp2
               go_ret
               exact ⟨zE, zB⟩
              have p7 := beq_eq_false_iff_ne.mpr e4; have p8 := bne_iff_ne.mpr e4
              exact absurd H (by simp)
             exact absurd H (by simp)
            exact absurd H (by simp)
           have o8 := beq_eq_false_iff_ne.mpr e3; have o9 := bne_iff_ne.mpr e3
           exact absurd H (by simp)
          have o5 := beq_eq_false_iff_ne.mpr e0; have o6 := bne_iff_ne.mpr e0
          exact absurd H (by simp)
         have o2 : (b3 == b4) = false := by simpa using b6
         (try (have o3 : decide (b3 = b4) = false := by simpa using b6))
         (try (have o4 : (b3 == b4) = false := by simpa using b6))
         (try (have v9 : ¬ (b3 = b4) := by simpa using b6))
         clear b6
         exact absurd H (by simp)
        have o0 := beq_eq_false_iff_ne.mpr d9; have o1 := bne_iff_ne.mpr d9
        exact absurd H (by simp)
       exact absurd H (by simp)
end Go.Proofs.YtbaeljcnbkeipaaDoor.PGB
