/- The walks of the functions that these laws reach, and what each comes to: printed by this session's program. -/
import Derived.Test.YtbjgmbhkofgjaaaDoorZGBPGBx0
import Derived.Test.YtbjgmbhkofgjaaaDoorZGBPGBx1
import Derived.Test.YtbjgmbhkofgjaaaDoorZGBPGBx2
import Derived.Test.YtbjgmbhkofgjaaaDoorZGBPGBx5
import Derived.Test.YtbjgmbhkofgjaaaDoorZGBSays
import Derived.Test.YtbjgmbhkofgjaaaDoorZGBRegs
namespace Go.Proofs.YtbjgmbhkofgjaaaDoor.PGB
open Go.RowKit Go.Proofs.YtbjgmbhkofgjaaaDoorW.PrintWords Go.Proofs.YtbjgmbhkofgjaaaDoorW.PrintLast Go.Proofs.YtbjgmbhkofgjaaaDoorW.PrintMore
attribute [local go_sem high] Go.Proofs.YtbjgmbhkofgjaaaDoor.Mine.str_gtr Go.Proofs.YtbjgmbhkofgjaaaDoor.Mine.str_leq Go.Proofs.YtbjgmbhkofgjaaaDoor.Mine.str_geq
attribute [local go_sem] max2_int min2_int max_two min_two max_three min_three max_four min_four   -- for this text's walks alone
set_option linter.unusedVariables false
set_option maxHeartbeats 8000000
set_option maxRecDepth 100000
set_option linter.unusedSimpArgs false
/-! ### spec_VerText: function 30 -/
def spec_VerText.j0 : Nat → Int → Int → Int → List ByteArray → Option (ByteArray)
 | 0, _, _, _, _ => none
 | k + 1, x264000, x264001, x264002, x264003 => (spec_NumText.f k x264000).bind fun t265 => (if t265.size + 1 ≤ 9223372036854775807 then ((spec_NumText.f k x264001).bind fun t266 => (if (t265 ++ (⟨#[46]⟩ : ByteArray)).size + t266.size ≤ 9223372036854775807 then (if ((t265 ++ (⟨#[46]⟩ : ByteArray)) ++ t266).size + 1 ≤ 9223372036854775807 then ((spec_NumText.f k x264002).bind fun t267 => (if (((t265 ++ (⟨#[46]⟩ : ByteArray)) ++ t266) ++ (⟨#[46]⟩ : ByteArray)).size + t267.size ≤ 9223372036854775807 then (if (x264003.length : Int) > 0 then (if ((((t265 ++ (⟨#[46]⟩ : ByteArray)) ++ t266) ++ (⟨#[46]⟩ : ByteArray)) ++ t267).size + 1 ≤ 9223372036854775807 then ((spec_Join.f k x264003 (⟨#[46]⟩ : ByteArray)).bind fun t268 => (if (((((t265 ++ (⟨#[46]⟩ : ByteArray)) ++ t266) ++ (⟨#[46]⟩ : ByteArray)) ++ t267) ++ (⟨#[45]⟩ : ByteArray)).size + t268.size ≤ 9223372036854775807 then (some ((((((t265 ++ (⟨#[46]⟩ : ByteArray)) ++ t266) ++ (⟨#[46]⟩ : ByteArray)) ++ t267) ++ (⟨#[45]⟩ : ByteArray)) ++ t268)) else (none))) else (none)) else (some ((((t265 ++ (⟨#[46]⟩ : ByteArray)) ++ t266) ++ (⟨#[46]⟩ : ByteArray)) ++ t267))) else (none))) else (none)) else (none))) else (none))
def spec_VerText.f (k : Nat) (a0_0 : Int) (a0_1 : Int) (a0_2 : Int) (l0_3 : List ByteArray) : Option (ByteArray) := (spec_VerOk.f k a0_0 a0_1 a0_2 l0_3).bind fun t264 => (if t264 = true then (spec_VerText.j0 k a0_0 a0_1 a0_2 l0_3) else (some (⟨#[]⟩ : ByteArray)))
def spec_VerText.T3 : Bool × List (List Nat × List Nat) := (true, [([], []), ([0], [0]), ([1], [1]), ([2], [2]), ([], []), ([4], [4]), ([5, 2], [5]), ([3, 6], [3, 6]), ([7], [7]), ([], []), ([9], [9]), ([10, 6], [10]), ([8, 11], [8, 11]), ([12, 11, 0, 1, 2, 3, 4, 5, 6, 7, 8, 9, 10, 11, 12], [12])])
def spec_VerText.B3 : List Nat := [0, 1, 3, 7, 0, 16, 55, 127, 255, 0, 512, 1655, 4095, 8191]
theorem spec_VerText.tab3 : rtab .any (opsOf Tryd.f30 3) = spec_VerText.T3 := by kernel_rfl
theorem spec_VerText.bits3 : waitsOk spec_VerText.T3.2 spec_VerText.B3 = true := by kernel_rfl
theorem spec_VerText.calls (k : Nat) (a0_0 : Int) (a0_1 : Int) (a0_2 : Int) (A0_3 : Option Addr) (c0_3 : Nat) (l0_3 : List ByteArray) (r : ByteArray) (w : World) (hr0_3 : Kd.C Kd.string w A0_3 l0_3.length l0_3) (hc0_3 : l0_3.length ≤ c0_3) (h : spec_VerText.f k a0_0 a0_1 a0_2 l0_3 = some r) :
  Calls Tryd.prog 30 #[.agg #[.int .i64 a0_0, .int .i64 a0_1, .int .i64 a0_2, .slice A0_3 l0_3.length c0_3]] w fun e w' => e = .returned (.string r) ∧ Below w.heap.size w w' := by
 have hu26 := Tryd.underlying26
 have HR0_3 := Aside0.mk hr0_3
 have HC0_3 := Aside0.mk hc0_3
 clear hr0_3 hc0_3
 have HB := zA (Below.refl w.heap.size w)
 have H : ((spec_VerOk.f k a0_0 a0_1 a0_2 l0_3).bind fun t264 => (if t264 = true then (spec_VerText.j0 k a0_0 a0_1 a0_2 l0_3) else (some (⟨#[]⟩ : ByteArray)))) = some r := h
 clear h
 replace H := Option.bind_eq_some_iff.mp H
 obtain ⟨t264, A20, H⟩ := H
 try dsimp only at H
 have A2 := Aside0.mk A20
 clear A20
 have HC3 := Aside0.mk H
 clear H
 go_enter Tryd.func30, Tryd.ntmps30
 go_upto_if 6 with (first | ((with_reducible refine zd 1 ?_); refine ze 1 26 #[.int .i64 a0_0, .int .i64 a0_1, .int .i64 a0_2, .slice A0_3 l0_3.length c0_3] ?_; intro gb263 hg w4 hbox hb; have BK263 := zA (hbox); have GW263 := zi HB hg; have GE263 := zi HB hg; replace HB := zA (below_step (zB) hb); clear hb hbox hg; obtain ⟨hcz5_0, hcz5_1, hcz5_2, hcz5_3, hfz5_0, hfz5_1, hfz5_2, hfz5_3⟩ := ze4 BK263.out) | ((with_reducible refine zq 15 ?_); refine zg (some 5) Tryd.func15 #[.agg #[.int .i64 a0_0, .int .i64 a0_1, .int .i64 a0_2, .slice A0_3 l0_3.length c0_3]] ?_; (with_reducible refine (spec_VerOk.calls k a0_0 a0_1 a0_2 _ _ l0_3 t264 _ ?side1 ?side2 A2.out).mono ?_); (case side1 => exact zC (Kd.C_below HR0_3.out HB.out)); (case side2 => exact HC0_3.out); rintro e w6 ⟨rfl, hb⟩; refine ⟨_, rfl, ?_⟩; replace BK263 := zb BK263 hb; replace HB := zh HB hb; (try clear hb)))
 (try simp only [Act.put, zT])
 go_cut [] (fun wc => ∃ (kq : Nat), Aside0 (spec_VerText.j0 kq a0_0 a0_1 a0_2 l0_3 = some r) ∧ Aside0 (kq ≤ k) ∧ Aside0 (wc.heap[gb263]? = some (.cells #[.int .i64 a0_0, .int .i64 a0_1, .int .i64 a0_2, (.slice A0_3 l0_3.length c0_3)] 26 (0, 0))) ∧ Aside0 (Below w.heap.size w wc))
 case first =>
  have H := HC3.out
  clear HC3
  by_cases c7 : t264 = true
  ·subst c7
   rw [if_pos rfl] at H
   have H' := Aside0.mk H
   clear H
   go_wp2
   go_meet
   case rel => exact ⟨_, (by first | exact H' | (subst_vars; exact H')), ⟨by first | omega | exact Nat.le_refl _⟩, ⟨zK BK263.out⟩, ⟨zW HB.out⟩⟩
  ·replace c7 := Bool.eq_false_iff.mpr c7
   subst c7
   rw [if_neg zFT] at H
   obtain rfl := Option.some.inj H
   go_wp2
   go_ret
   exact ⟨zE, zW HB.out⟩
 case rest =>
  clear HC3
  try clear c1
  try clear p2
  try clear c3
  try clear c7
  try clear hcz5_0 hcz5_1 hcz5_2 hcz5_3 hfz5_0 hfz5_1 hfz5_2 hfz5_3
  obtain ⟨kq, HA, HJ2, BK263, HB⟩ := hcut
  cases kq with
  | zero => exact absurd HA.out (by simp [spec_VerText.j0])
  | succ kj2 =>
   have H := HA.out
   clear HA
   simp only [spec_VerText.j0] at H
   replace H := Option.bind_eq_some_iff.mp H
   obtain ⟨t265, A80, H⟩ := H
   try dsimp only at H
   have A8 := Aside0.mk A80
   clear A80
   by_cases c9 : t265.size + 1 ≤ 9223372036854775807
   ·rw [if_pos c9] at H
    have c9b0 := eq_true c9
    have c9b1 := decide_eq_true c9
    try have c9b2 : (9223372036854775807 < t265.size + 1) = False := eq_false (Nat.not_lt.2 c9)
    replace H := Option.bind_eq_some_iff.mp H
    obtain ⟨t266, A100, H⟩ := H
    try dsimp only at H
    have A10 := Aside0.mk A100
    clear A100
    by_cases c11 : (t265 ++ (⟨#[46]⟩ : ByteArray)).size + t266.size ≤ 9223372036854775807
    ·rw [if_pos c11] at H
     have c11b0 := eq_true c11
     have c11b1 := decide_eq_true c11
     try have c11b2 : (9223372036854775807 < (t265 ++ (⟨#[46]⟩ : ByteArray)).size + t266.size) = False := eq_false (Nat.not_lt.2 c11)
     try have c11b3 : (9223372036854775807 < t265.size + 1 + t266.size) = False := (by have z_ := c11; (try simp only [ByteArray.size_append] at z_); exact eq_false (Nat.not_lt.2 z_))
     by_cases c12 : ((t265 ++ (⟨#[46]⟩ : ByteArray)) ++ t266).size + 1 ≤ 9223372036854775807
     ·rw [if_pos c12] at H
      have c12b0 := eq_true c12
      have c12b1 := decide_eq_true c12
      try have c12b2 : (9223372036854775807 < ((t265 ++ (⟨#[46]⟩ : ByteArray)) ++ t266).size + 1) = False := eq_false (Nat.not_lt.2 c12)
      try have c12b3 : (9223372036854775807 < t265.size + 1 + t266.size + 1) = False := (by have z_ := c12; (try simp only [ByteArray.size_append] at z_); exact eq_false (Nat.not_lt.2 z_))
      replace H := Option.bind_eq_some_iff.mp H
      obtain ⟨t267, A130, H⟩ := H
      try dsimp only at H
      have A13 := Aside0.mk A130
      clear A130
      by_cases c14 : (((t265 ++ (⟨#[46]⟩ : ByteArray)) ++ t266) ++ (⟨#[46]⟩ : ByteArray)).size + t267.size ≤ 9223372036854775807
      ·rw [if_pos c14] at H
       have c14b0 := eq_true c14
       have c14b1 := decide_eq_true c14
       try have c14b2 : (9223372036854775807 < (((t265 ++ (⟨#[46]⟩ : ByteArray)) ++ t266) ++ (⟨#[46]⟩ : ByteArray)).size + t267.size) = False := eq_false (Nat.not_lt.2 c14)
       try have c14b3 : (9223372036854775807 < t265.size + 1 + t266.size + 1 + t267.size) = False := (by have z_ := c14; (try simp only [ByteArray.size_append] at z_); exact eq_false (Nat.not_lt.2 z_))
       by_cases c15 : (l0_3.length : Int) > 0
       ·rw [if_pos c15] at H
        have c15b0 : decide (0 < (l0_3.length : Int)) = true := decide_eq_true c15
        have c15b1 : decide (0 < l0_3.length) = true := decide_eq_true (by omega)
        clear c15
        by_cases c16 : ((((t265 ++ (⟨#[46]⟩ : ByteArray)) ++ t266) ++ (⟨#[46]⟩ : ByteArray)) ++ t267).size + 1 ≤ 9223372036854775807
        ·rw [if_pos c16] at H
         have c16b0 := eq_true c16
         have c16b1 := decide_eq_true c16
         try have c16b2 : (9223372036854775807 < ((((t265 ++ (⟨#[46]⟩ : ByteArray)) ++ t266) ++ (⟨#[46]⟩ : ByteArray)) ++ t267).size + 1) = False := eq_false (Nat.not_lt.2 c16)
         try have c16b3 : (9223372036854775807 < t265.size + 1 + t266.size + 1 + t267.size + 1) = False := (by have z_ := c16; (try simp only [ByteArray.size_append] at z_); exact eq_false (Nat.not_lt.2 z_))
         replace H := Option.bind_eq_some_iff.mp H
         obtain ⟨t268, A170, H⟩ := H
         try dsimp only at H
         have A17 := Aside0.mk A170
         clear A170
         by_cases c18 : (((((t265 ++ (⟨#[46]⟩ : ByteArray)) ++ t266) ++ (⟨#[46]⟩ : ByteArray)) ++ t267) ++ (⟨#[45]⟩ : ByteArray)).size + t268.size ≤ 9223372036854775807
         ·rw [if_pos c18] at H
          have c18b0 := eq_true c18
          have c18b1 := decide_eq_true c18
          try have c18b2 : (9223372036854775807 < (((((t265 ++ (⟨#[46]⟩ : ByteArray)) ++ t266) ++ (⟨#[46]⟩ : ByteArray)) ++ t267) ++ (⟨#[45]⟩ : ByteArray)).size + t268.size) = False := eq_false (Nat.not_lt.2 c18)
          try have c18b3 : (9223372036854775807 < t265.size + 1 + t266.size + 1 + t267.size + 1 + t268.size) = False := (by have z_ := c18; (try simp only [ByteArray.size_append] at z_); exact eq_false (Nat.not_lt.2 z_))
          obtain rfl := Option.some.inj H
          try go_wp2
          replace BK263 := zA (blk_drew BK263.out)
          replace HB := zA (below_drew1 HB.out)
          refine start_ (n := 14) (S := fun w' => w'.cell? ⟨gb263, 0, none⟩ = some (.int .i64 a0_0) ∧ w'.cell? ⟨gb263, 1, none⟩ = some (.int .i64 a0_1) ∧ w'.cell? ⟨gb263, 2, none⟩ = some (.int .i64 a0_2) ∧ w'.cell? ⟨gb263, 3, none⟩ = some (.slice A0_3 l0_3.length c0_3)) (ds := []) (Array.replicate 14 false) (by kernel_rfl) rfl rfl ⟨(blk_cell BK263.out 0).trans rfl, (blk_cell BK263.out 1).trans rfl, (blk_cell BK263.out 2).trans rfl, (blk_cell BK263.out 3).trans rfl⟩ (fun hHeld => ?_); refine with_tabW spec_VerText.tab3 spec_VerText.bits3 (fun HT_ HW_ => ?_)
          generalize wc.drew = w19 at BK263 HB hHeld ⊢
          refine zp 0 7 ?_
          refine zp 4 11 ?_
          refine zp 9 16 ?_
          refine zt 1 8 ?_
          refine zt 5 12 ?_
          refine zt 10 17 ?_
          refine zo 2 (some 9) fun K hK => ?_
          refine goes_ Tryd.func61 (by kernel_rfl) rfl #[.int .i64 a0_0] (by rfl) rfl rfl zM ?_
          with_reducible refine (spec_NumText.calls kj2 a0_0 t265 _ A8.out).mono ?_
          rintro e w20 ⟨rfl, hb⟩
          refine ⟨_, rfl, ?_⟩
          replace BK263 := zb BK263 hb
          replace HB := zh HB hb
          (try clear hb)
          refine hK.out _ _ ⟨(blk_cell BK263.out 0).trans rfl, (blk_cell BK263.out 1).trans rfl, (blk_cell BK263.out 2).trans rfl, (blk_cell BK263.out 3).trans rfl⟩ (fun hHeld => ?_)
          clear hK K
          refine zn ?_
          refine zp 3 10 ?_
          refine zo 6 (some 13) fun K hK => ?_
          refine goes_ Tryd.func61 (by kernel_rfl) rfl #[.int .i64 a0_1] (by rfl) rfl rfl zM ?_
          with_reducible refine (spec_NumText.calls kj2 a0_1 t266 _ A10.out).mono ?_
          rintro e w21 ⟨rfl, hb⟩
          refine ⟨_, rfl, ?_⟩
          replace BK263 := zb BK263 hb
          replace HB := zh HB hb
          (try clear hb)
          refine hK.out _ _ ⟨(blk_cell BK263.out 0).trans rfl, (blk_cell BK263.out 1).trans rfl, (blk_cell BK263.out 2).trans rfl, (blk_cell BK263.out 3).trans rfl⟩ (fun hHeld => ?_)
          clear hK K
          refine zn ?_
          refine zp 7 14 ?_
          refine zp 8 15 ?_
          refine zo 11 (some 18) fun K hK => ?_
          refine goes_ Tryd.func61 (by kernel_rfl) rfl #[.int .i64 a0_2] (by rfl) rfl rfl zM ?_
          with_reducible refine (spec_NumText.calls kj2 a0_2 t267 _ A13.out).mono ?_
          rintro e w22 ⟨rfl, hb⟩
          refine ⟨_, rfl, ?_⟩
          replace BK263 := zb BK263 hb
          replace HB := zh HB hb
          (try clear hb)
          refine hK.out _ _ ⟨(blk_cell BK263.out 0).trans rfl, (blk_cell BK263.out 1).trans rfl, (blk_cell BK263.out 2).trans rfl, (blk_cell BK263.out 3).trans rfl⟩ (fun hHeld => ?_)
          clear hK K
          refine zn ?_
          refine zp 12 19 ?_
          refine zp 13 3 ?_
          refine done_ (done_of HT_.out (by kernel_rfl)) ?_
          obtain ⟨hcz23_0, hcz23_1, hcz23_2, hcz23_3, hfz23_0, hfz23_1, hfz23_2, hfz23_3⟩ := ze4 BK263.out
          try go_wp2_with (first | ((with_reducible refine zq 62 ?_); refine zg (some 28) Tryd.func62 #[.slice A0_3 l0_3.length c0_3, .string (⟨#[46]⟩ : ByteArray)] ?_; (with_reducible refine (spec_Join.calls kj2 _ _ l0_3 (⟨#[46]⟩ : ByteArray) t268 _ ?side1 ?side2 A17.out).mono ?_); (case side1 => exact zC (Kd.C_below HR0_3.out HB.out)); (case side2 => exact HC0_3.out); rintro e w' ⟨rfl, ⟨nd, rfl⟩⟩; refine ⟨_, rfl, ?_⟩))
          go_ret
          exact ⟨zE, zW HB.out⟩
         ·rw [if_neg c18] at H
          exact absurd H (by simp)
        ·rw [if_neg c16] at H
         exact absurd H (by simp)
       ·rw [if_neg c15] at H
        have c15b0 : decide (0 < (l0_3.length : Int)) = false := decide_eq_false c15
        have c15b1 : decide (0 < l0_3.length) = false := decide_eq_false (by omega)
        clear c15
        obtain rfl := Option.some.inj H
        try go_wp2
        replace BK263 := zA (blk_drew BK263.out)
        replace HB := zA (below_drew1 HB.out)
        refine start_ (n := 14) (S := fun w' => w'.cell? ⟨gb263, 0, none⟩ = some (.int .i64 a0_0) ∧ w'.cell? ⟨gb263, 1, none⟩ = some (.int .i64 a0_1) ∧ w'.cell? ⟨gb263, 2, none⟩ = some (.int .i64 a0_2) ∧ w'.cell? ⟨gb263, 3, none⟩ = some (.slice A0_3 l0_3.length c0_3)) (ds := []) (Array.replicate 14 false) (by kernel_rfl) rfl rfl ⟨(blk_cell BK263.out 0).trans rfl, (blk_cell BK263.out 1).trans rfl, (blk_cell BK263.out 2).trans rfl, (blk_cell BK263.out 3).trans rfl⟩ (fun hHeld => ?_); refine with_tabW spec_VerText.tab3 spec_VerText.bits3 (fun HT_ HW_ => ?_)
        generalize wc.drew = w24 at BK263 HB hHeld ⊢
        refine zp 0 7 ?_
        refine zp 4 11 ?_
        refine zp 9 16 ?_
        refine zt 1 8 ?_
        refine zt 5 12 ?_
        refine zt 10 17 ?_
        refine zo 2 (some 9) fun K hK => ?_
        refine goes_ Tryd.func61 (by kernel_rfl) rfl #[.int .i64 a0_0] (by rfl) rfl rfl zM ?_
        with_reducible refine (spec_NumText.calls kj2 a0_0 t265 _ A8.out).mono ?_
        rintro e w25 ⟨rfl, hb⟩
        refine ⟨_, rfl, ?_⟩
        replace BK263 := zb BK263 hb
        replace HB := zh HB hb
        (try clear hb)
        refine hK.out _ _ ⟨(blk_cell BK263.out 0).trans rfl, (blk_cell BK263.out 1).trans rfl, (blk_cell BK263.out 2).trans rfl, (blk_cell BK263.out 3).trans rfl⟩ (fun hHeld => ?_)
        clear hK K
        refine zn ?_
        refine zp 3 10 ?_
        refine zo 6 (some 13) fun K hK => ?_
        refine goes_ Tryd.func61 (by kernel_rfl) rfl #[.int .i64 a0_1] (by rfl) rfl rfl zM ?_
        with_reducible refine (spec_NumText.calls kj2 a0_1 t266 _ A10.out).mono ?_
        rintro e w26 ⟨rfl, hb⟩
        refine ⟨_, rfl, ?_⟩
        replace BK263 := zb BK263 hb
        replace HB := zh HB hb
        (try clear hb)
        refine hK.out _ _ ⟨(blk_cell BK263.out 0).trans rfl, (blk_cell BK263.out 1).trans rfl, (blk_cell BK263.out 2).trans rfl, (blk_cell BK263.out 3).trans rfl⟩ (fun hHeld => ?_)
        clear hK K
        refine zn ?_
        refine zp 7 14 ?_
        refine zp 8 15 ?_
        refine zo 11 (some 18) fun K hK => ?_
        refine goes_ Tryd.func61 (by kernel_rfl) rfl #[.int .i64 a0_2] (by rfl) rfl rfl zM ?_
        with_reducible refine (spec_NumText.calls kj2 a0_2 t267 _ A13.out).mono ?_
        rintro e w27 ⟨rfl, hb⟩
        refine ⟨_, rfl, ?_⟩
        replace BK263 := zb BK263 hb
        replace HB := zh HB hb
        (try clear hb)
        refine hK.out _ _ ⟨(blk_cell BK263.out 0).trans rfl, (blk_cell BK263.out 1).trans rfl, (blk_cell BK263.out 2).trans rfl, (blk_cell BK263.out 3).trans rfl⟩ (fun hHeld => ?_)
        clear hK K
        refine zn ?_
        refine zp 12 19 ?_
        refine zp 13 3 ?_
        refine done_ (done_of HT_.out (by kernel_rfl)) ?_
        obtain ⟨hcz28_0, hcz28_1, hcz28_2, hcz28_3, hfz28_0, hfz28_1, hfz28_2, hfz28_3⟩ := ze4 BK263.out
        try go_wp2
        go_ret
        exact ⟨zE, zW HB.out⟩
      ·rw [if_neg c14] at H
       exact absurd H (by simp)
     ·rw [if_neg c12] at H
      exact absurd H (by simp)
    ·rw [if_neg c11] at H
     exact absurd H (by simp)
   ·rw [if_neg c9] at H
    exact absurd H (by simp)
/-! ### spec_DrawParseVer: function 8 -/
def spec_DrawParseVer.f (k : Nat) (l0 : List Int) : Option (ByteArray) := (spec_l1New.f k l0).bind fun bt269 => ((spec_l3Draw.f k bt269.1 bt269.2.1 bt269.2.2).bind fun bt273 => ((spec_VerText.f k bt273.1 bt273.2.1 bt273.2.2.1 bt273.2.2.2.1).bind fun t281 => ((spec_l1Below.f k bt269.1 bt273.2.2.2.2.1 bt273.2.2.2.2.2 4).bind fun bt282 => (if bt282.1 = 0 then ((spec_l1Str.f k bt269.1 bt282.2.1 bt282.2.2 (([(⟨#[]⟩ : ByteArray), (⟨#[49, 46, 50]⟩ : ByteArray), (⟨#[49, 46, 50, 46, 51, 46, 52]⟩ : ByteArray), (⟨#[48, 49, 46, 50, 46, 51]⟩ : ByteArray), (⟨#[49, 46, 50, 46, 51, 45]⟩ : ByteArray), (⟨#[49, 46, 50, 46, 51, 45, 48, 49]⟩ : ByteArray), (⟨#[49, 46, 50, 46, 51, 45, 97, 46, 46, 98]⟩ : ByteArray), (⟨#[49, 46, 50, 46, 51, 45, 97, 45, 98]⟩ : ByteArray), (⟨#[49, 46, 50, 46, 120]⟩ : ByteArray), (⟨#[49, 48, 48, 48, 48, 46, 48, 46, 48]⟩ : ByteArray), (⟨#[118, 49, 46, 50, 46, 51]⟩ : ByteArray), (⟨#[49, 46, 50, 46, 51, 45, 97, 46, 98, 46, 99, 46, 100]⟩ : ByteArray), (⟨#[57, 57, 57, 57, 46, 48, 46, 48, 45, 48]⟩ : ByteArray)] : List ByteArray))).bind fun bt288 => (some bt288.1)) else (if bt282.1 = 1 then ((spec_l1Below.f k bt269.1 bt282.2.1 bt282.2.2 (wrap64 ((t281.size : Int) + 1))).bind fun bt291 => (if 0 ≤ bt291.1 then (if bt291.1 ≤ (t281.size : Int) then ((spec_l1Str.f k bt269.1 bt291.2.1 bt291.2.2 (([(⟨#[46]⟩ : ByteArray), (⟨#[45]⟩ : ByteArray), (⟨#[48]⟩ : ByteArray), (⟨#[120]⟩ : ByteArray), (⟨#[32]⟩ : ByteArray)] : List ByteArray))).bind fun bt297 => (if (t281.extract 0 (bt291.1 : Int).toNat).size + bt297.1.size ≤ 9223372036854775807 then (if ((t281.extract 0 (bt291.1 : Int).toNat) ++ bt297.1).size + (t281.extract (bt291.1 : Int).toNat t281.size).size ≤ 9223372036854775807 then (some (((t281.extract 0 (bt291.1 : Int).toNat) ++ bt297.1) ++ (t281.extract (bt291.1 : Int).toNat t281.size))) else (none)) else (none))) else (none)) else (none))) else (some t281))))))
def spec_DrawParseVer.T8 : Bool × List (List Nat × List Nat) := (true, [([], []), ([], []), ([0, 1], [0, 1]), ([], []), ([], []), ([3, 4], [3, 4]), ([2, 5], [2, 5]), ([], []), ([], []), ([7, 8], [7, 8]), ([6, 9], [6, 9]), ([10, 5, 0, 1, 2, 3, 4, 5, 6, 7, 8, 9, 10], [10])])
def spec_DrawParseVer.B8 : List Nat := [0, 0, 3, 0, 0, 24, 63, 0, 0, 384, 1023, 2047]
theorem spec_DrawParseVer.tab8 : rtab .any (opsOf Tryd.f8 8) = spec_DrawParseVer.T8 := by kernel_rfl
theorem spec_DrawParseVer.bits8 : waitsOk spec_DrawParseVer.T8.2 spec_DrawParseVer.B8 = true := by kernel_rfl
theorem spec_DrawParseVer.calls (k : Nat) (A0 : Option Addr) (c0 : Nat) (l0 : List Int) (r : ByteArray) (w : World) (hr0 : Kd.C (Kd.int .u8) w A0 l0.length l0) (hc0 : l0.length ≤ c0) (h : spec_DrawParseVer.f k l0 = some r) :
  Calls Tryd.prog 8 #[.slice A0 l0.length c0] w fun e w' => e = .returned (.string r) ∧ Below w.heap.size w w' := by
 have HR0 := Aside0.mk hr0
 have HC0 := Aside0.mk hc0
 clear hr0 hc0
 have HB := zA (Below.refl w.heap.size w)
 have H : ((spec_l1New.f k l0).bind fun bt269 => ((spec_l3Draw.f k bt269.1 bt269.2.1 bt269.2.2).bind fun bt273 => ((spec_VerText.f k bt273.1 bt273.2.1 bt273.2.2.1 bt273.2.2.2.1).bind fun t281 => ((spec_l1Below.f k bt269.1 bt273.2.2.2.2.1 bt273.2.2.2.2.2 4).bind fun bt282 => (if bt282.1 = 0 then ((spec_l1Str.f k bt269.1 bt282.2.1 bt282.2.2 (([(⟨#[]⟩ : ByteArray), (⟨#[49, 46, 50]⟩ : ByteArray), (⟨#[49, 46, 50, 46, 51, 46, 52]⟩ : ByteArray), (⟨#[48, 49, 46, 50, 46, 51]⟩ : ByteArray), (⟨#[49, 46, 50, 46, 51, 45]⟩ : ByteArray), (⟨#[49, 46, 50, 46, 51, 45, 48, 49]⟩ : ByteArray), (⟨#[49, 46, 50, 46, 51, 45, 97, 46, 46, 98]⟩ : ByteArray), (⟨#[49, 46, 50, 46, 51, 45, 97, 45, 98]⟩ : ByteArray), (⟨#[49, 46, 50, 46, 120]⟩ : ByteArray), (⟨#[49, 48, 48, 48, 48, 46, 48, 46, 48]⟩ : ByteArray), (⟨#[118, 49, 46, 50, 46, 51]⟩ : ByteArray), (⟨#[49, 46, 50, 46, 51, 45, 97, 46, 98, 46, 99, 46, 100]⟩ : ByteArray), (⟨#[57, 57, 57, 57, 46, 48, 46, 48, 45, 48]⟩ : ByteArray)] : List ByteArray))).bind fun bt288 => (some bt288.1)) else (if bt282.1 = 1 then ((spec_l1Below.f k bt269.1 bt282.2.1 bt282.2.2 (wrap64 ((t281.size : Int) + 1))).bind fun bt291 => (if 0 ≤ bt291.1 then (if bt291.1 ≤ (t281.size : Int) then ((spec_l1Str.f k bt269.1 bt291.2.1 bt291.2.2 (([(⟨#[46]⟩ : ByteArray), (⟨#[45]⟩ : ByteArray), (⟨#[48]⟩ : ByteArray), (⟨#[120]⟩ : ByteArray), (⟨#[32]⟩ : ByteArray)] : List ByteArray))).bind fun bt297 => (if (t281.extract 0 (bt291.1 : Int).toNat).size + bt297.1.size ≤ 9223372036854775807 then (if ((t281.extract 0 (bt291.1 : Int).toNat) ++ bt297.1).size + (t281.extract (bt291.1 : Int).toNat t281.size).size ≤ 9223372036854775807 then (some (((t281.extract 0 (bt291.1 : Int).toNat) ++ bt297.1) ++ (t281.extract (bt291.1 : Int).toNat t281.size))) else (none)) else (none))) else (none)) else (none))) else (some t281))))))) = some r := h
 clear h
 replace H := Option.bind_eq_some_iff.mp H
 obtain ⟨⟨t269, t270, t271⟩, A20, H⟩ := H
 try dsimp only at H
 have A2 := Aside0.mk A20
 clear A20
 replace H := Option.bind_eq_some_iff.mp H
 obtain ⟨⟨t273, t274, t275, t276, t279, t280⟩, A30, H⟩ := H
 try dsimp only at H
 have A3 := Aside0.mk A30
 clear A30
 replace H := Option.bind_eq_some_iff.mp H
 obtain ⟨t281, A40, H⟩ := H
 try dsimp only at H
 have A4 := Aside0.mk A40
 clear A40
 replace H := Option.bind_eq_some_iff.mp H
 obtain ⟨⟨t282, t283, t284⟩, A50, H⟩ := H
 try dsimp only at H
 have A5 := Aside0.mk A50
 clear A50
 by_cases c6 : t282 = 0
 ·rw [if_pos c6] at H
  have c6b0 : (t282 == 0) = true := beq_iff_eq.mpr c6
  have c6b1 : (t282 != 0) = false := bne_eq_false_iff_eq.mpr c6
  clear c6
  obtain ⟨y285, hy285⟩ : ∃ y_ : List ByteArray, y_ = (([(⟨#[]⟩ : ByteArray), (⟨#[49, 46, 50]⟩ : ByteArray), (⟨#[49, 46, 50, 46, 51, 46, 52]⟩ : ByteArray), (⟨#[48, 49, 46, 50, 46, 51]⟩ : ByteArray), (⟨#[49, 46, 50, 46, 51, 45]⟩ : ByteArray), (⟨#[49, 46, 50, 46, 51, 45, 48, 49]⟩ : ByteArray), (⟨#[49, 46, 50, 46, 51, 45, 97, 46, 46, 98]⟩ : ByteArray), (⟨#[49, 46, 50, 46, 51, 45, 97, 45, 98]⟩ : ByteArray), (⟨#[49, 46, 50, 46, 120]⟩ : ByteArray), (⟨#[49, 48, 48, 48, 48, 46, 48, 46, 48]⟩ : ByteArray), (⟨#[118, 49, 46, 50, 46, 51]⟩ : ByteArray), (⟨#[49, 46, 50, 46, 51, 45, 97, 46, 98, 46, 99, 46, 100]⟩ : ByteArray), (⟨#[57, 57, 57, 57, 46, 48, 46, 48, 45, 48]⟩ : ByteArray)] : List ByteArray)) := ⟨_, rfl⟩
  replace H : ((spec_l1Str.f k t269 t283 t284 y285).bind fun bt288 => (some bt288.1)) = some r := by first | (rw [hy285]; with_reducible exact H) | (have H2_ := (Option.bind_some _ _).symm.trans H; rw [hy285]; with_reducible exact H2_) | (have H2_ := (Option.bind_some _ _).symm.trans H; with_reducible exact H2_) | with_reducible exact H | (rw [hy285]; exact H) | exact H
  have Ny285 := Aside0.mk hy285
  clear hy285
  replace H := Option.bind_eq_some_iff.mp H
  obtain ⟨⟨t288, t289, t290⟩, A70, H⟩ := H
  try dsimp only at H
  have A7 := Aside0.mk A70
  clear A70
  obtain rfl := Option.some.inj H
  go_enter Tryd.func8, Tryd.ntmps8
  go_wp2_with (first | ((with_reducible refine zq 26 ?_); refine zg (some 7) Tryd.func26 #[.slice A0 l0.length c0] ?_; (with_reducible refine (spec_l1New.calls k _ _ l0 t269 t270 t271 w _ ?side1 ?side2 ?side3 A2.out).mono ?_); (case side1 => repeat (first | (with_reducible first | exact HB.out | apply below_alloc | apply pw_below_drewN | apply below_drew1) | exact HB.out)); (case side2 => exact HR0.out); (case side3 => exact HC0.out); rintro e w8 ⟨g272, rfl, hi, hb, hb2⟩; refine ⟨_, rfl, ?_⟩; replace HB := zA (hb); have HI272 := zA (hi); (try clear hb hb2 hi)) | ((with_reducible refine zq 31 ?_); refine zg (some 9) Tryd.func31 #[.pointer (some ⟨g272, 0, none⟩)] ?_; (with_reducible refine (spec_l3Draw.calls k g272 t269 t270 t271 t273 t274 t275 t276 t279 t280 w _ ?side1 ?side2 A3.out).mono ?_); (case side1 => repeat (first | (with_reducible first | exact HI272.out | apply IsS68.alloc | apply IsS68.drewN | apply IsS68.drew | apply IsS68.set_1 | apply IsS68.set_2) | exact HI272.out)); (case side2 => repeat (first | (with_reducible first | exact HB.out | apply below_alloc | apply pw_below_drewN | apply below_drew1 | refine below_set ?_ (IsS68.ge HI272.out)) | exact HB.out)); rintro e w9 ⟨v277, rfl, ho0, hi, hb, hk⟩; refine ⟨_, rfl, ?_⟩; have HO278 := zA (Kd.R_lower ho0 (below_size (zX HB.out (IsS68.ge HI272.out)))); replace HB := zA (hb); replace HI272 := zA (hi); (try clear hb hk hi ho0); obtain ⟨Ao10, co10, eo10⟩ := Kd.R_slice HO278.out; subst eo10) | ((with_reducible refine zq 30 ?_); refine zg (some 10) Tryd.func30 #[.agg #[.int .i64 t273, .int .i64 t274, .int .i64 t275, .slice Ao10 t276.length co10]] ?_; (with_reducible refine (spec_VerText.calls k t273 t274 t275 _ _ t276 t281 _ ?side1 ?side2 A4.out).mono ?_); (case side1 => repeat (first | exact (Kd.R_reads' HO278.out).2.2 | (with_reducible refine Kd.C_alloc ?_ _) | (with_reducible refine Kd.C_drewN ?_ _) | (with_reducible refine Kd.C_drew ?_))); (case side2 => exact (Kd.R_reads' HO278.out).2.1); rintro e w11 ⟨rfl, hb⟩; refine ⟨_, rfl, ?_⟩; replace HO278 := zr HO278 hb; replace HB := zA (below_step (zX HB.out (IsS68.ge HI272.out)) hb); replace HI272 := zA (IsS68.below (by repeat (first | (with_reducible first | exact HI272.out | apply IsS68.alloc | apply IsS68.drewN | apply IsS68.drew | apply IsS68.set_1 | apply IsS68.set_2) | exact HI272.out)) hb); (try clear hb)) | ((with_reducible refine zq 32 ?_); refine zg (some 12) Tryd.func32 #[.pointer (some ⟨g272, 0, none⟩), .int .i64 4] ?_; (with_reducible refine (spec_l1Below.calls k g272 t269 t279 t280 4 t282 t283 t284 w _ ?side1 ?side2 A5.out).mono ?_); (case side1 => repeat (first | (with_reducible first | exact HI272.out | apply IsS68.alloc | apply IsS68.drewN | apply IsS68.drew | apply IsS68.set_1 | apply IsS68.set_2) | exact HI272.out)); (case side2 => repeat (first | (with_reducible first | exact HB.out | apply below_alloc | apply pw_below_drewN | apply below_drew1 | refine below_set ?_ (IsS68.ge HI272.out)) | exact HB.out)); rintro e w12 ⟨rfl, hi, hb, hk⟩; refine ⟨_, rfl, ?_⟩; replace HO278 := zA (Kd.R_mono (Kd.R_keep (IsS68.apart (show IsS68 w _ g272 t269 t279 t280 from by repeat (first | (with_reducible first | exact HI272.out | apply IsS68.alloc | apply IsS68.drewN | apply IsS68.drew | apply IsS68.set_1 | apply IsS68.set_2) | exact HI272.out)) (zR HO278.out) (by decide)) hk (fun _ h => h.2)) (fun _ h => h.1)); replace HB := zA (hb); replace HI272 := zA (hi); (try clear hb hk hi)) | ((with_reducible refine gate_dst (N := 16) rfl ?_); refine Kd.R_lit Kd.string _ 9 ?hg (N := 16) ?hd (xs := ([(⟨#[]⟩ : ByteArray), (⟨#[49, 46, 50]⟩ : ByteArray), (⟨#[49, 46, 50, 46, 51, 46, 52]⟩ : ByteArray), (⟨#[48, 49, 46, 50, 46, 51]⟩ : ByteArray), (⟨#[49, 46, 50, 46, 51, 45]⟩ : ByteArray), (⟨#[49, 46, 50, 46, 51, 45, 48, 49]⟩ : ByteArray), (⟨#[49, 46, 50, 46, 51, 45, 97, 46, 46, 98]⟩ : ByteArray), (⟨#[49, 46, 50, 46, 51, 45, 97, 45, 98]⟩ : ByteArray), (⟨#[49, 46, 50, 46, 120]⟩ : ByteArray), (⟨#[49, 48, 48, 48, 48, 46, 48, 46, 48]⟩ : ByteArray), (⟨#[118, 49, 46, 50, 46, 51]⟩ : ByteArray), (⟨#[49, 46, 50, 46, 51, 45, 97, 46, 98, 46, 99, 46, 100]⟩ : ByteArray), (⟨#[57, 57, 57, 57, 46, 48, 46, 48, 45, 48]⟩ : ByteArray)] : List ByteArray)) (inner := [.string (⟨#[]⟩ : ByteArray), .string (⟨#[49, 46, 50]⟩ : ByteArray), .string (⟨#[49, 46, 50, 46, 51, 46, 52]⟩ : ByteArray), .string (⟨#[48, 49, 46, 50, 46, 51]⟩ : ByteArray), .string (⟨#[49, 46, 50, 46, 51, 45]⟩ : ByteArray), .string (⟨#[49, 46, 50, 46, 51, 45, 48, 49]⟩ : ByteArray), .string (⟨#[49, 46, 50, 46, 51, 45, 97, 46, 46, 98]⟩ : ByteArray), .string (⟨#[49, 46, 50, 46, 51, 45, 97, 45, 98]⟩ : ByteArray), .string (⟨#[49, 46, 50, 46, 120]⟩ : ByteArray), .string (⟨#[49, 48, 48, 48, 48, 46, 48, 46, 48]⟩ : ByteArray), .string (⟨#[118, 49, 46, 50, 46, 51]⟩ : ByteArray), .string (⟨#[49, 46, 50, 46, 51, 45, 97, 46, 98, 46, 99, 46, 100]⟩ : ByteArray), .string (⟨#[57, 57, 57, 57, 46, 48, 46, 48, 45, 48]⟩ : ByteArray)]) (ok := fun _ => True) (okp := fun _ => True) ?hr ?hp (fun _ hk => hk) trivial (Below.refl _ _) (Nat.le_refl _) (by simp) ?_; (case hd => rfl); (case hg => rfl); (case hr => first | (go_simp; done) | (go_simp; rfl)); (case hp => exact (Reps.one (show Kd.M Kd.string _ _ _ (⟨#[]⟩ : ByteArray) [.string (⟨#[]⟩ : ByteArray)] from rfl) (Reps.one (show Kd.M Kd.string _ _ _ (⟨#[49, 46, 50]⟩ : ByteArray) [.string (⟨#[49, 46, 50]⟩ : ByteArray)] from rfl) (Reps.one (show Kd.M Kd.string _ _ _ (⟨#[49, 46, 50, 46, 51, 46, 52]⟩ : ByteArray) [.string (⟨#[49, 46, 50, 46, 51, 46, 52]⟩ : ByteArray)] from rfl) (Reps.one (show Kd.M Kd.string _ _ _ (⟨#[48, 49, 46, 50, 46, 51]⟩ : ByteArray) [.string (⟨#[48, 49, 46, 50, 46, 51]⟩ : ByteArray)] from rfl) (Reps.one (show Kd.M Kd.string _ _ _ (⟨#[49, 46, 50, 46, 51, 45]⟩ : ByteArray) [.string (⟨#[49, 46, 50, 46, 51, 45]⟩ : ByteArray)] from rfl) (Reps.one (show Kd.M Kd.string _ _ _ (⟨#[49, 46, 50, 46, 51, 45, 48, 49]⟩ : ByteArray) [.string (⟨#[49, 46, 50, 46, 51, 45, 48, 49]⟩ : ByteArray)] from rfl) (Reps.one (show Kd.M Kd.string _ _ _ (⟨#[49, 46, 50, 46, 51, 45, 97, 46, 46, 98]⟩ : ByteArray) [.string (⟨#[49, 46, 50, 46, 51, 45, 97, 46, 46, 98]⟩ : ByteArray)] from rfl) (Reps.one (show Kd.M Kd.string _ _ _ (⟨#[49, 46, 50, 46, 51, 45, 97, 45, 98]⟩ : ByteArray) [.string (⟨#[49, 46, 50, 46, 51, 45, 97, 45, 98]⟩ : ByteArray)] from rfl) (Reps.one (show Kd.M Kd.string _ _ _ (⟨#[49, 46, 50, 46, 120]⟩ : ByteArray) [.string (⟨#[49, 46, 50, 46, 120]⟩ : ByteArray)] from rfl) (Reps.one (show Kd.M Kd.string _ _ _ (⟨#[49, 48, 48, 48, 48, 46, 48, 46, 48]⟩ : ByteArray) [.string (⟨#[49, 48, 48, 48, 48, 46, 48, 46, 48]⟩ : ByteArray)] from rfl) (Reps.one (show Kd.M Kd.string _ _ _ (⟨#[118, 49, 46, 50, 46, 51]⟩ : ByteArray) [.string (⟨#[118, 49, 46, 50, 46, 51]⟩ : ByteArray)] from rfl) (Reps.one (show Kd.M Kd.string _ _ _ (⟨#[49, 46, 50, 46, 51, 45, 97, 46, 98, 46, 99, 46, 100]⟩ : ByteArray) [.string (⟨#[49, 46, 50, 46, 51, 45, 97, 46, 98, 46, 99, 46, 100]⟩ : ByteArray)] from rfl) (Reps.one (show Kd.M Kd.string _ _ _ (⟨#[57, 57, 57, 57, 46, 48, 46, 48, 45, 48]⟩ : ByteArray) [.string (⟨#[57, 57, 57, 57, 46, 48, 46, 48, 45, 48]⟩ : ByteArray)] from rfl) (Reps.none _ _))))))))))))))); intro v286 w13 ho14 hb hg_ hnew_; clear hg_ hnew_; (first | rw [← Ny285.out] at ho14 | (simp only [Int.reduceToNat] at ho14; rw [← Ny285.out] at ho14)); have HO287 := zA (Kd.R_lower (Kd.R_new' ho14 (Kd.R_lt (zR HO278.out))) (below_size (zX HB.out (IsS68.ge HI272.out)))); replace HO278 := zA (Kd.R_elder' (zR HO278.out) (Kd.R_base ho14) hb); replace HB := zA (below_step (zX HB.out (IsS68.ge HI272.out)) hb); replace HI272 := zA (IsS68.below (by repeat (first | (with_reducible first | exact HI272.out | apply IsS68.alloc | apply IsS68.drewN | apply IsS68.drew | apply IsS68.set_1 | apply IsS68.set_2) | exact HI272.out)) hb); clear hb ho14; obtain ⟨Ao15, co15, eo15⟩ := Kd.R_slice HO287.out; subst eo15) | ((with_reducible refine zq 33 ?_); refine zg (some 17) Tryd.func33 #[.pointer (some ⟨g272, 0, none⟩), .slice Ao15 y285.length co15] ?_; (with_reducible refine (spec_l1Str.calls k g272 t269 t283 t284 _ _ y285 t288 t289 t290 w _ ?side1 ?side2 ?side3 ?side4 ?side5 A7.out).mono ?_); (case side1 => repeat (first | (with_reducible first | exact HI272.out | apply IsS68.alloc | apply IsS68.drewN | apply IsS68.drew | apply IsS68.set_1 | apply IsS68.set_2) | exact HI272.out)); (case side2 => repeat (first | (with_reducible first | exact HB.out | apply below_alloc | apply pw_below_drewN | apply below_drew1 | refine below_set ?_ (IsS68.ge HI272.out)) | exact HB.out)); (case side3 => repeat (first | exact (Kd.R_reads' HO287.out).2.2 | (with_reducible refine Kd.C_alloc ?_ _) | (with_reducible refine Kd.C_drewN ?_ _) | (with_reducible refine Kd.C_drew ?_))); (case side4 => exact (Kd.R_reads' HO287.out).2.1); (case side5 => exact far_slice (IsS68.own_ne HI272.out HO287.out (by decide))); rintro e w16 ⟨rfl, hi, hb, hk⟩; refine ⟨_, rfl, ?_⟩; replace HO278 := zA (Kd.R_mono (Kd.R_keep (IsS68.apart (show IsS68 w _ g272 t269 t283 t284 from by repeat (first | (with_reducible first | exact HI272.out | apply IsS68.alloc | apply IsS68.drewN | apply IsS68.drew | apply IsS68.set_1 | apply IsS68.set_2) | exact HI272.out)) (zR HO278.out) (by decide)) hk (fun _ h => h.2)) (fun _ h => h.1)); replace HO287 := zA (Kd.R_mono (Kd.R_keep (IsS68.apart (show IsS68 w _ g272 t269 t283 t284 from by repeat (first | (with_reducible first | exact HI272.out | apply IsS68.alloc | apply IsS68.drewN | apply IsS68.drew | apply IsS68.set_1 | apply IsS68.set_2) | exact HI272.out)) (zR HO287.out) (by decide)) hk (fun _ h => h.2)) (fun _ h => h.1)); replace HB := zA (hb); replace HI272 := zA (hi); (try clear hb hk hi)))
  go_ret
  exact ⟨zE, zX HB.out (IsS68.ge HI272.out)⟩
 ·rw [if_neg c6] at H
  have c6b0 : (t282 == 0) = false := beq_eq_false_iff_ne.mpr c6
  have c6b1 : (t282 != 0) = true := bne_iff_ne.mpr c6
  by_cases c17 : t282 = 1
  ·rw [if_pos c17] at H
   have c17b0 : (t282 == 1) = true := beq_iff_eq.mpr c17
   have c17b1 : (t282 != 1) = false := bne_eq_false_iff_eq.mpr c17
   clear c17
   replace H := Option.bind_eq_some_iff.mp H
   obtain ⟨⟨t291, t292, t293⟩, A180, H⟩ := H
   try dsimp only at H
   have A18 := Aside0.mk A180
   clear A180
   by_cases c19 : 0 ≤ t291
   ·rw [if_pos c19] at H
    have c19b0 := eq_true c19
    have c19b1 := decide_eq_true c19
    clear c19
    by_cases c20 : t291 ≤ (t281.size : Int)
    ·rw [if_pos c20] at H
     have c20b0 := eq_true c20
     have c20b1 := decide_eq_true c20
     clear c20
     obtain ⟨y294, hy294⟩ : ∃ y_ : List ByteArray, y_ = (([(⟨#[46]⟩ : ByteArray), (⟨#[45]⟩ : ByteArray), (⟨#[48]⟩ : ByteArray), (⟨#[120]⟩ : ByteArray), (⟨#[32]⟩ : ByteArray)] : List ByteArray)) := ⟨_, rfl⟩
     replace H : ((spec_l1Str.f k t269 t292 t293 y294).bind fun bt297 => (if (t281.extract 0 (t291 : Int).toNat).size + bt297.1.size ≤ 9223372036854775807 then (if ((t281.extract 0 (t291 : Int).toNat) ++ bt297.1).size + (t281.extract (t291 : Int).toNat t281.size).size ≤ 9223372036854775807 then (some (((t281.extract 0 (t291 : Int).toNat) ++ bt297.1) ++ (t281.extract (t291 : Int).toNat t281.size))) else (none)) else (none))) = some r := by first | (rw [hy294]; with_reducible exact H) | (have H2_ := (Option.bind_some _ _).symm.trans H; rw [hy294]; with_reducible exact H2_) | (have H2_ := (Option.bind_some _ _).symm.trans H; with_reducible exact H2_) | with_reducible exact H | (rw [hy294]; exact H) | exact H
     have Ny294 := Aside0.mk hy294
     clear hy294
     replace H := Option.bind_eq_some_iff.mp H
     obtain ⟨⟨t297, t298, t299⟩, A210, H⟩ := H
     try dsimp only at H
     have A21 := Aside0.mk A210
     clear A210
     by_cases c22 : (t281.extract 0 (t291 : Int).toNat).size + t297.size ≤ 9223372036854775807
     ·rw [if_pos c22] at H
      have c22b0 := eq_true c22
      have c22b1 := decide_eq_true c22
      try have c22b2 : (9223372036854775807 < (t281.extract 0 (t291 : Int).toNat).size + t297.size) = False := eq_false (Nat.not_lt.2 c22)
      try have c22b6 : (9223372036854775807 < (t291 : Int).toNat + t297.size) = False := (by have z_ := c22; have h_ : t291 ≤ (t281.size : Int) := zD; simp only [ByteArray.size_append, ByteArray.size_extract] at z_; exact eq_false (by omega))
      have c23b0 := eq_true (zD : 0 ≤ t291)
      have c24b0 := eq_true (zD : t291 ≤ (t281.size : Int))
      by_cases c25 : ((t281.extract 0 (t291 : Int).toNat) ++ t297).size + (t281.extract (t291 : Int).toNat t281.size).size ≤ 9223372036854775807
      ·rw [if_pos c25] at H
       have c25b0 := eq_true c25
       have c25b1 := decide_eq_true c25
       try have c25b2 : (9223372036854775807 < ((t281.extract 0 (t291 : Int).toNat) ++ t297).size + (t281.extract (t291 : Int).toNat t281.size).size) = False := eq_false (Nat.not_lt.2 c25)
       try have c25b3 : (9223372036854775807 < (t281.extract 0 (t291 : Int).toNat).size + t297.size + (t281.extract (t291 : Int).toNat t281.size).size) = False := (by have z_ := c25; (try simp only [ByteArray.size_append] at z_); exact eq_false (Nat.not_lt.2 z_))
       try have c25b6 : (9223372036854775807 < (t291 : Int).toNat + t297.size + (t281.size - (t291 : Int).toNat)) = False := (by have z_ := c25; have h_ : t291 ≤ (t281.size : Int) := zD; simp only [ByteArray.size_append, ByteArray.size_extract] at z_; exact eq_false (by omega))
       obtain rfl := Option.some.inj H
       go_enter Tryd.func8, Tryd.ntmps8
       try go_wp2_with (first | ((with_reducible refine zq 26 ?_); refine zg (some 7) Tryd.func26 #[.slice A0 l0.length c0] ?_; (with_reducible refine (spec_l1New.calls k _ _ l0 t269 t270 t271 w _ ?side1 ?side2 ?side3 A2.out).mono ?_); (case side1 => repeat (first | (with_reducible first | exact HB.out | apply below_alloc | apply pw_below_drewN | apply below_drew1) | exact HB.out)); (case side2 => exact HR0.out); (case side3 => exact HC0.out); rintro e w26 ⟨g272, rfl, hi, hb, hb2⟩; refine ⟨_, rfl, ?_⟩; replace HB := zA (hb); have HI272 := zA (hi); (try clear hb hb2 hi)) | ((with_reducible refine zq 31 ?_); refine zg (some 9) Tryd.func31 #[.pointer (some ⟨g272, 0, none⟩)] ?_; (with_reducible refine (spec_l3Draw.calls k g272 t269 t270 t271 t273 t274 t275 t276 t279 t280 w _ ?side1 ?side2 A3.out).mono ?_); (case side1 => repeat (first | (with_reducible first | exact HI272.out | apply IsS68.alloc | apply IsS68.drewN | apply IsS68.drew | apply IsS68.set_1 | apply IsS68.set_2) | exact HI272.out)); (case side2 => repeat (first | (with_reducible first | exact HB.out | apply below_alloc | apply pw_below_drewN | apply below_drew1 | refine below_set ?_ (IsS68.ge HI272.out)) | exact HB.out)); rintro e w27 ⟨v277, rfl, ho0, hi, hb, hk⟩; refine ⟨_, rfl, ?_⟩; have HO278 := zA (Kd.R_lower ho0 (below_size (zX HB.out (IsS68.ge HI272.out)))); replace HB := zA (hb); replace HI272 := zA (hi); (try clear hb hk hi ho0); obtain ⟨Ao28, co28, eo28⟩ := Kd.R_slice HO278.out; subst eo28) | ((with_reducible refine zq 30 ?_); refine zg (some 10) Tryd.func30 #[.agg #[.int .i64 t273, .int .i64 t274, .int .i64 t275, .slice Ao28 t276.length co28]] ?_; (with_reducible refine (spec_VerText.calls k t273 t274 t275 _ _ t276 t281 _ ?side1 ?side2 A4.out).mono ?_); (case side1 => repeat (first | exact (Kd.R_reads' HO278.out).2.2 | (with_reducible refine Kd.C_alloc ?_ _) | (with_reducible refine Kd.C_drewN ?_ _) | (with_reducible refine Kd.C_drew ?_))); (case side2 => exact (Kd.R_reads' HO278.out).2.1); rintro e w29 ⟨rfl, hb⟩; refine ⟨_, rfl, ?_⟩; replace HO278 := zr HO278 hb; replace HB := zA (below_step (zX HB.out (IsS68.ge HI272.out)) hb); replace HI272 := zA (IsS68.below (by repeat (first | (with_reducible first | exact HI272.out | apply IsS68.alloc | apply IsS68.drewN | apply IsS68.drew | apply IsS68.set_1 | apply IsS68.set_2) | exact HI272.out)) hb); (try clear hb)) | ((with_reducible refine zq 32 ?_); refine zg (some 12) Tryd.func32 #[.pointer (some ⟨g272, 0, none⟩), .int .i64 4] ?_; (with_reducible refine (spec_l1Below.calls k g272 t269 t279 t280 4 t282 t283 t284 w _ ?side1 ?side2 A5.out).mono ?_); (case side1 => repeat (first | (with_reducible first | exact HI272.out | apply IsS68.alloc | apply IsS68.drewN | apply IsS68.drew | apply IsS68.set_1 | apply IsS68.set_2) | exact HI272.out)); (case side2 => repeat (first | (with_reducible first | exact HB.out | apply below_alloc | apply pw_below_drewN | apply below_drew1 | refine below_set ?_ (IsS68.ge HI272.out)) | exact HB.out)); rintro e w30 ⟨rfl, hi, hb, hk⟩; refine ⟨_, rfl, ?_⟩; replace HO278 := zA (Kd.R_mono (Kd.R_keep (IsS68.apart (show IsS68 w _ g272 t269 t279 t280 from by repeat (first | (with_reducible first | exact HI272.out | apply IsS68.alloc | apply IsS68.drewN | apply IsS68.drew | apply IsS68.set_1 | apply IsS68.set_2) | exact HI272.out)) (zR HO278.out) (by decide)) hk (fun _ h => h.2)) (fun _ h => h.1)); replace HB := zA (hb); replace HI272 := zA (hi); (try clear hb hk hi)) | ((with_reducible refine zq 32 ?_); refine zg (some 24) Tryd.func32 #[.pointer (some ⟨g272, 0, none⟩), .int .i64 (wrap64 ((t281.size : Int) + 1))] ?_; (with_reducible refine (spec_l1Below.calls k g272 t269 t283 t284 (wrap64 ((t281.size : Int) + 1)) t291 t292 t293 w _ ?side1 ?side2 A18.out).mono ?_); (case side1 => repeat (first | (with_reducible first | exact HI272.out | apply IsS68.alloc | apply IsS68.drewN | apply IsS68.drew | apply IsS68.set_1 | apply IsS68.set_2) | exact HI272.out)); (case side2 => repeat (first | (with_reducible first | exact HB.out | apply below_alloc | apply pw_below_drewN | apply below_drew1 | refine below_set ?_ (IsS68.ge HI272.out)) | exact HB.out)); rintro e w31 ⟨rfl, hi, hb, hk⟩; refine ⟨_, rfl, ?_⟩; replace HO278 := zA (Kd.R_mono (Kd.R_keep (IsS68.apart (show IsS68 w _ g272 t269 t283 t284 from by repeat (first | (with_reducible first | exact HI272.out | apply IsS68.alloc | apply IsS68.drewN | apply IsS68.drew | apply IsS68.set_1 | apply IsS68.set_2) | exact HI272.out)) (zR HO278.out) (by decide)) hk (fun _ h => h.2)) (fun _ h => h.1)); replace HB := zA (hb); replace HI272 := zA (hi); (try clear hb hk hi)))
       replace HO278 := zA (Kd.R_drew HO278.out)
       replace HI272 := zA (IsS68.drew HI272.out)
       replace HB := zA (below_drew1 HB.out)
       refine start_ (n := 12) (S := fun w' => True) (ds := []) (Array.replicate 12 false) (by kernel_rfl) rfl rfl trivial (fun hHeld => ?_); refine with_tabW spec_DrawParseVer.tab8 spec_DrawParseVer.bits8 (fun HT_ HW_ => ?_)
       generalize w31.drew = w32 at HO278 HI272 HB hHeld ⊢
       refine zp 0 25 ?_
       refine zp 1 26 ?_
       refine zp 2 27 ?_
       refine zp 3 28 ?_
       refine zp 7 32 ?_
       refine zp 8 33 ?_
       refine zp 9 34 ?_
       refine zo 4 (some 29) fun K hK => ?_
       refine Kd.R_lit_step Kd.string _ 9 ?hg (N := 29) ?hd (xs := ([(⟨#[46]⟩ : ByteArray), (⟨#[45]⟩ : ByteArray), (⟨#[48]⟩ : ByteArray), (⟨#[120]⟩ : ByteArray), (⟨#[32]⟩ : ByteArray)] : List ByteArray)) (inner := [.string (⟨#[46]⟩ : ByteArray), .string (⟨#[45]⟩ : ByteArray), .string (⟨#[48]⟩ : ByteArray), .string (⟨#[120]⟩ : ByteArray), .string (⟨#[32]⟩ : ByteArray)]) (ok := fun _ => True) (okp := fun _ => True) ?hr ?hp (fun _ hk => hk) trivial (Below.refl _ _) (Nat.le_refl _) (by simp) ?_; (case hd => rfl); (case hg => rfl); (case hr => first | (go_simp; done) | (go_simp; rfl)); (case hp => exact (Reps.one (show Kd.M Kd.string _ _ _ (⟨#[46]⟩ : ByteArray) [.string (⟨#[46]⟩ : ByteArray)] from rfl) (Reps.one (show Kd.M Kd.string _ _ _ (⟨#[45]⟩ : ByteArray) [.string (⟨#[45]⟩ : ByteArray)] from rfl) (Reps.one (show Kd.M Kd.string _ _ _ (⟨#[48]⟩ : ByteArray) [.string (⟨#[48]⟩ : ByteArray)] from rfl) (Reps.one (show Kd.M Kd.string _ _ _ (⟨#[120]⟩ : ByteArray) [.string (⟨#[120]⟩ : ByteArray)] from rfl) (Reps.one (show Kd.M Kd.string _ _ _ (⟨#[32]⟩ : ByteArray) [.string (⟨#[32]⟩ : ByteArray)] from rfl) (Reps.none _ _)))))))
       intro v295 w33 ho34 hb hg_ hnew_
       clear hg_ hnew_
       (first | rw [← Ny294.out] at ho34 | (simp only [Int.reduceToNat] at ho34; rw [← Ny294.out] at ho34))
       have HO296 := zA (Kd.R_lower (Kd.R_new' ho34 (Kd.R_lt (zR HO278.out))) (below_size (zX HB.out (IsS68.ge HI272.out))))
       replace HO278 := zA (Kd.R_elder' (zR HO278.out) (Kd.R_base ho34) hb)
       replace HB := zA (below_step (zX HB.out (IsS68.ge HI272.out)) hb)
       replace HI272 := zA (IsS68.below (by repeat (first | (with_reducible first | exact HI272.out | apply IsS68.alloc | apply IsS68.drewN | apply IsS68.drew | apply IsS68.set_1 | apply IsS68.set_2) | exact HI272.out)) hb)
       clear hb ho34
       obtain ⟨Ao35, co35, eo35⟩ := Kd.R_slice HO296.out
       (first | subst eo35 | (injection eo35 with f1_ f2_ f3_; have f4_ := f1_.symm; have f5_ := f3_.symm; clear f1_ f2_ f3_; subst f4_; subst f5_))
       refine hK.out _ _ trivial (fun hHeld => ?_)
       clear hK K
       refine zn ?_
       refine zo 5 (some 30) fun K hK => ?_
       refine goes_ Tryd.func33 (by kernel_rfl) rfl #[.pointer (some ⟨g272, 0, none⟩), .slice Ao35 y294.length co35] (by rfl) rfl rfl zM ?_
       with_reducible refine (spec_l1Str.calls k g272 t269 t292 t293 _ _ y294 t297 t298 t299 w _ ?side1 ?side2 ?side3 ?side4 ?side5 A21.out).mono ?_
       (case side1 => repeat (first | (with_reducible first | exact HI272.out | apply IsS68.alloc | apply IsS68.drewN | apply IsS68.drew | apply IsS68.set_1 | apply IsS68.set_2) | exact HI272.out))
       (case side2 => repeat (first | (with_reducible first | exact HB.out | apply below_alloc | apply pw_below_drewN | apply below_drew1 | refine below_set ?_ (IsS68.ge HI272.out)) | exact HB.out))
       (case side3 => repeat (first | exact (Kd.R_reads' HO296.out).2.2 | (with_reducible refine Kd.C_alloc ?_ _) | (with_reducible refine Kd.C_drewN ?_ _) | (with_reducible refine Kd.C_drew ?_)))
       (case side4 => exact (Kd.R_reads' HO296.out).2.1)
       (case side5 => exact far_slice (IsS68.own_ne HI272.out HO296.out (by decide)))
       rintro e w36 ⟨rfl, hi, hb, hk⟩
       refine ⟨_, rfl, ?_⟩
       replace HO278 := zA (Kd.R_mono (Kd.R_keep (IsS68.apart (show IsS68 w _ g272 t269 t292 t293 from by repeat (first | (with_reducible first | exact HI272.out | apply IsS68.alloc | apply IsS68.drewN | apply IsS68.drew | apply IsS68.set_1 | apply IsS68.set_2) | exact HI272.out)) (zR HO278.out) (by decide)) hk (fun _ h => h.2)) (fun _ h => h.1))
       replace HO296 := zA (Kd.R_mono (Kd.R_keep (IsS68.apart (show IsS68 w _ g272 t269 t292 t293 from by repeat (first | (with_reducible first | exact HI272.out | apply IsS68.alloc | apply IsS68.drewN | apply IsS68.drew | apply IsS68.set_1 | apply IsS68.set_2) | exact HI272.out)) (zR HO296.out) (by decide)) hk (fun _ h => h.2)) (fun _ h => h.1))
       replace HB := zA (hb)
       replace HI272 := zA (hi)
       (try clear hb hk hi)
       refine hK.out _ _ trivial (fun hHeld => ?_)
       clear hK K
       refine zn ?_
       refine zp 6 31 ?_
       refine zp 10 35 ?_
       refine zp 11 2 ?_
       refine done_ (done_of HT_.out (by kernel_rfl)) ?_
       try go_wp2
       go_ret
       exact ⟨zE, zX HB.out (IsS68.ge HI272.out)⟩
      ·rw [if_neg c25] at H
       exact absurd H (by simp)
     ·rw [if_neg c22] at H
      exact absurd H (by simp)
    ·rw [if_neg c20] at H
     exact absurd H (by simp)
   ·rw [if_neg c19] at H
    exact absurd H (by simp)
  ·rw [if_neg c17] at H
   have c17b0 : (t282 == 1) = false := beq_eq_false_iff_ne.mpr c17
   have c17b1 : (t282 != 1) = true := bne_iff_ne.mpr c17
   obtain rfl := Option.some.inj H
   go_enter Tryd.func8, Tryd.ntmps8
   go_wp2_with (first | ((with_reducible refine zq 26 ?_); refine zg (some 7) Tryd.func26 #[.slice A0 l0.length c0] ?_; (with_reducible refine (spec_l1New.calls k _ _ l0 t269 t270 t271 w _ ?side1 ?side2 ?side3 A2.out).mono ?_); (case side1 => repeat (first | (with_reducible first | exact HB.out | apply below_alloc | apply pw_below_drewN | apply below_drew1) | exact HB.out)); (case side2 => exact HR0.out); (case side3 => exact HC0.out); rintro e w37 ⟨g272, rfl, hi, hb, hb2⟩; refine ⟨_, rfl, ?_⟩; replace HB := zA (hb); have HI272 := zA (hi); (try clear hb hb2 hi)) | ((with_reducible refine zq 31 ?_); refine zg (some 9) Tryd.func31 #[.pointer (some ⟨g272, 0, none⟩)] ?_; (with_reducible refine (spec_l3Draw.calls k g272 t269 t270 t271 t273 t274 t275 t276 t279 t280 w _ ?side1 ?side2 A3.out).mono ?_); (case side1 => repeat (first | (with_reducible first | exact HI272.out | apply IsS68.alloc | apply IsS68.drewN | apply IsS68.drew | apply IsS68.set_1 | apply IsS68.set_2) | exact HI272.out)); (case side2 => repeat (first | (with_reducible first | exact HB.out | apply below_alloc | apply pw_below_drewN | apply below_drew1 | refine below_set ?_ (IsS68.ge HI272.out)) | exact HB.out)); rintro e w38 ⟨v277, rfl, ho0, hi, hb, hk⟩; refine ⟨_, rfl, ?_⟩; have HO278 := zA (Kd.R_lower ho0 (below_size (zX HB.out (IsS68.ge HI272.out)))); replace HB := zA (hb); replace HI272 := zA (hi); (try clear hb hk hi ho0); obtain ⟨Ao39, co39, eo39⟩ := Kd.R_slice HO278.out; subst eo39) | ((with_reducible refine zq 30 ?_); refine zg (some 10) Tryd.func30 #[.agg #[.int .i64 t273, .int .i64 t274, .int .i64 t275, .slice Ao39 t276.length co39]] ?_; (with_reducible refine (spec_VerText.calls k t273 t274 t275 _ _ t276 t281 _ ?side1 ?side2 A4.out).mono ?_); (case side1 => repeat (first | exact (Kd.R_reads' HO278.out).2.2 | (with_reducible refine Kd.C_alloc ?_ _) | (with_reducible refine Kd.C_drewN ?_ _) | (with_reducible refine Kd.C_drew ?_))); (case side2 => exact (Kd.R_reads' HO278.out).2.1); rintro e w40 ⟨rfl, hb⟩; refine ⟨_, rfl, ?_⟩; replace HO278 := zr HO278 hb; replace HB := zA (below_step (zX HB.out (IsS68.ge HI272.out)) hb); replace HI272 := zA (IsS68.below (by repeat (first | (with_reducible first | exact HI272.out | apply IsS68.alloc | apply IsS68.drewN | apply IsS68.drew | apply IsS68.set_1 | apply IsS68.set_2) | exact HI272.out)) hb); (try clear hb)) | ((with_reducible refine zq 32 ?_); refine zg (some 12) Tryd.func32 #[.pointer (some ⟨g272, 0, none⟩), .int .i64 4] ?_; (with_reducible refine (spec_l1Below.calls k g272 t269 t279 t280 4 t282 t283 t284 w _ ?side1 ?side2 A5.out).mono ?_); (case side1 => repeat (first | (with_reducible first | exact HI272.out | apply IsS68.alloc | apply IsS68.drewN | apply IsS68.drew | apply IsS68.set_1 | apply IsS68.set_2) | exact HI272.out)); (case side2 => repeat (first | (with_reducible first | exact HB.out | apply below_alloc | apply pw_below_drewN | apply below_drew1 | refine below_set ?_ (IsS68.ge HI272.out)) | exact HB.out)); rintro e w41 ⟨rfl, hi, hb, hk⟩; refine ⟨_, rfl, ?_⟩; replace HO278 := zA (Kd.R_mono (Kd.R_keep (IsS68.apart (show IsS68 w _ g272 t269 t279 t280 from by repeat (first | (with_reducible first | exact HI272.out | apply IsS68.alloc | apply IsS68.drewN | apply IsS68.drew | apply IsS68.set_1 | apply IsS68.set_2) | exact HI272.out)) (zR HO278.out) (by decide)) hk (fun _ h => h.2)) (fun _ h => h.1)); replace HB := zA (hb); replace HI272 := zA (hi); (try clear hb hk hi)))
   go_ret
   exact ⟨zE, zX HB.out (IsS68.ge HI272.out)⟩
/-! ### strings_Cut: function 34 -/
def strings_Cut.f (a0 a1 : ByteArray) : Option (ByteArray × ByteArray × Bool) := if a0.size < 4294967281 then some (⟨(Lib.cut a0.data.toList a1.data.toList).1.toArray⟩, ⟨(Lib.cut a0.data.toList a1.data.toList).2.1.toArray⟩, (Lib.cut a0.data.toList a1.data.toList).2.2) else none
theorem strings_Cut.calls (a0 a1 : ByteArray) (r1 r2 : ByteArray) (r3 : Bool) (w : World) (hG : GW w) (h : strings_Cut.f a0 a1 = some (r1, r2, r3)) :
  Calls Tryd.prog 34 #[.string a0, .string a1] w fun e w' => e = .returned (.tuple #[.string r1, .string r2, .bool r3]) ∧ Below w.heap.size w w' := by
 unfold strings_Cut.f at h
 split at h
 ·rename_i hs
  obtain ⟨rfl, h2⟩ := Prod.mk.inj (Option.some.inj h)
  obtain ⟨rfl, rfl⟩ := Prod.mk.inj h2
  obtain ⟨m, hm⟩ := hG.maxLen
  refine (Tryd.strings_Cut a0 a1 m w hs hm).mono ?_
  rintro e w' ⟨rfl, k, rfl⟩
  exact ⟨rfl, pw_below_drewN (Below.refl _ _) _⟩
 ·cases h
/-! ### strings_Split: function 35 -/
def strings_Split.f (a0 a1 : ByteArray) : Option (List ByteArray) := if a0.size < 4294967281 ∧ 1 ≤ a1.size then some (Lib.splitB a1 0 (Lib.countB a0 a1) a0) else none
theorem strings_Split.calls (a0 a1 : ByteArray) (r : List ByteArray) (w : World) (hG : GW w) (h : strings_Split.f a0 a1 = some r) :
  Calls Tryd.prog 35 #[.string a0, .string a1] w fun e w' => ∃ v0_ : Value, e = .returned (v0_) ∧ Kd.R Kd.string 9 w' w.heap.size (fun _ => True) v0_ r ∧ Below w.heap.size w w' := by
 unfold strings_Split.f at h
 split at h
 ·rename_i hs
  obtain rfl := Option.some.inj h
  obtain ⟨m, hm⟩ := hG.maxLen
  refine (Tryd.strings_Split a0 a1 m w hs.1 hm hs.2).mono ?_
  rintro e w' ⟨rfl, rfl⟩
  have hl := Lib.splitB_all a1 hs.2 0 _ a0 rfl
  have hle := Lib.countB_le a1 hs.2 a0.size a0 (Nat.le_refl _)
  exact ⟨_, rfl, Lb.split_R w 9 _ _ hl (by omega), below_alloc (Below.refl _ _) _⟩
 ·cases h
end Go.Proofs.YtbjgmbhkofgjaaaDoor.PGB
