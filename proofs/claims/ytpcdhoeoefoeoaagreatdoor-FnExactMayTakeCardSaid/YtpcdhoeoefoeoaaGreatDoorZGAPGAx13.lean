/- The walks of the functions that these laws reach, and what each comes to: printed by this session's program. -/
import Derived.Test.YtpcdhoeoefoeoaaGreatDoorZGAPGAx0
import Derived.Test.YtpcdhoeoefoeoaaGreatDoorZGAPGAx12
import Derived.Test.YtpcdhoeoefoeoaaGreatDoorZGASays
import Derived.Test.YtpcdhoeoefoeoaaGreatDoorZGARegs
namespace Go.Proofs.YtpcdhoeoefoeoaaGreatDoor.PGA
open Go.RowKit YtpcdhoeoefoeoaaGreatDoorW.PrintWords YtpcdhoeoefoeoaaGreatDoorW.PrintLast YtpcdhoeoefoeoaaGreatDoorW.PrintMore
attribute [local go_sem high] Mine.str_gtr Mine.str_leq Mine.str_geq
attribute [local go_sem] max2_int min2_int max_two min_two max_three min_three max_four min_four   -- for this text's walks alone
set_option linter.unusedVariables false
set_option maxHeartbeats 8000000
set_option maxRecDepth 100000
set_option linter.unusedSimpArgs false
/-! ### strings_Trim: function 127 -/
def strings_Trim.f (a0 a1 : ByteArray) : Option ByteArray := if a1.size = 1 ∧ bt a1 0 < 128 ∧ a0.size ≤ 9223372036854775807 then some ⟨(Lib.trimB a0.data.toList (bt a1 0).toNat.toUInt8).toArray⟩ else none
theorem strings_Trim.calls (a0 a1 r : ByteArray) (w : World) (h : strings_Trim.f a0 a1 = some r) :
  Calls Tryz.prog 127 #[.string a0, .string a1] w fun e w' => e = .returned (.string r) ∧ Drawn0 w w' := by
 unfold strings_Trim.f at h
 split at h
 ·rename_i hs
  obtain rfl := Option.some.inj h
  obtain ⟨c, rfl⟩ := Lb.one_byte hs.1
  rw [Lb.bt_one] at hs ⊢
  refine (Tryz.strings_Trim_one a0 c (by omega) w hs.2.2).mono ?_
  rintro e w' ⟨rfl, hw⟩
  refine ⟨by simp, ?_⟩
  rcases hw with rfl | rfl
  ·exact Drawn0.refl _
  ·exact ⟨⟨1, rfl⟩⟩
 ·cases h
/-! ### strings_Join: function 103 -/
def strings_Join.f (l0 : List ByteArray) (a1 : ByteArray) : Option ByteArray := if (Lib.join (l0.map (·.data.toList)) a1.data.toList).length ≤ 140737488355328 ∧ l0.length ≤ 140737488355328 then some ⟨(Lib.join (l0.map (·.data.toList)) a1.data.toList).toArray⟩ else none
theorem strings_Join.calls (A0 : Option Addr) (c0 : Nat) (l0 : List ByteArray) (a1 r : ByteArray) (w : World) (hr0 : Kd.C Kd.string w A0 l0.length l0) (hc0 : l0.length ≤ c0) (h : strings_Join.f l0 a1 = some r) :
  Calls Tryz.prog 103 #[.slice A0 l0.length c0, .string a1] w fun e w' => e = .returned (.string r) ∧ Below w.heap.size w w' := by
 unfold strings_Join.f at h
 split at h
 ·rename_i hs
  obtain rfl := Option.some.inj h
  rcases l0 with _ | ⟨x, l⟩
  ·refine (Tryz.strings_Join_none A0 c0 a1 w).mono ?_
   rintro e w' ⟨rfl, rfl⟩
   exact ⟨rfl, Below.refl _ _⟩
  ·obtain ⟨b, o, rfl, hcell⟩ := Lb.C_string_plain hr0 (by simp)
   exact Tryz.strings_Join b o c0 (x :: l) a1 w hcell (World.block_lt_of_cell? w _ (hcell 0 x rfl)) hs.2 hc0 hs.1
 ·cases h
/-! ### strconv_Itoa: function 174 -/
def strconv_Itoa.f (a0 : Int) : Option ByteArray := if -9223372036854775808 ≤ a0 ∧ a0 ≤ 9223372036854775807 then some ⟨(Lib.itoa a0).toArray⟩ else none
theorem strconv_Itoa.calls (a0 : Int) (r : ByteArray) (w : World) (hG : GW w) (h : strconv_Itoa.f a0 = some r) :
  Calls Tryz.prog 174 #[.int .i64 a0] w fun e w' => e = .returned (.string r) ∧ Below w.heap.size w w' := by
 unfold strconv_Itoa.f at h
 split at h
 ·rename_i hs
  obtain rfl := Option.some.inj h
  refine (Tryz.strconv_Itoa a0 hs.1 hs.2 w hG.pow10).mono ?_
  rintro e w' ⟨rfl, k, os, rfl⟩
  exact ⟨rfl, Lb.below_grow w k os⟩
 ·cases h
/-! ### impl_NumText: function 143 -/
def impl_NumText.f (a0 : Int) : Option (ByteArray) := (strconv_Itoa.f (mx a0 0)).bind fun t477 => (some t477)
theorem impl_NumText.calls (a0 : Int) (r : ByteArray) (w : World) (hG : GW w) (h : impl_NumText.f a0 = some r) :
  Calls Tryz.prog 143 #[.int .i64 a0] w fun e w' => e = .returned (.string r) ∧ Below w.heap.size w w' := by
 have HG := Aside0.mk hG
 clear hG
 have HB := zA (Below.refl w.heap.size w)
 unfold impl_NumText.f at h
 have H := h
 clear h
 obtain ⟨ji2, hji2⟩ : ∃ j_ : Int, (mx a0 0) = j_ := ⟨_, rfl⟩
 replace H : ((strconv_Itoa.f (ji2)).bind fun t477 => (some t477)) = some r := by first | (rw [hji2] at H; exact H) | (simp only [hji2] at H ⊢; exact H)
 (try (have hji2l : 0 ≤ ji2 := by (rw [← hji2]; unfold mx; (repeat' split) <;> omega)))
 (try (have hji2m : 0 ≤ ji2 := by omega))
 have hji2_ : (if a0 < 0 then 0 else a0) = ji2 := hji2
 replace H := zj H
 obtain ⟨t477, A3, H⟩ := H
 try dsimp only at H
 obtain rfl := Option.some.inj H
 go_enter Tryz.func143, Tryz.ntmps143
 go_wp2_with (first | ((with_reducible refine gate_callee (f := 174) rfl ?_); refine goesL_ (some 5) rfl rfl Tryz.func174 (by kernel_rfl) rfl #[.int .i64 ji2] rfl (by (try simp only [List.map_toArray, List.map_cons, List.map_nil]); first | done | (simp only [hji2]; rfl) | rfl | (simp only [List.length_drop, List.length_take]; rfl)) ?_; (with_reducible refine (strconv_Itoa.calls ji2 t477 _ ?side1 A3.out).mono ?_); (case side1 => exact GW.below HG.out (zB)); rintro e w4 ⟨rfl, hb⟩; refine ⟨_, rfl, ?_⟩; replace HB := zA (below_step (zB) hb); (try clear hb)))
 go_ret
 exact ⟨by first | rfl | (simp [errW_none, errW_some] <;> rfl) | (simp only [← hji2]; first | rfl | (simp [errW_none, errW_some] <;> rfl)) | (simp [*, errW_none, errW_some] <;> rfl), zB⟩
/-! ### impl_VerText: function 102 -/
def impl_VerText.j0 : Nat → Int → Int → Int → List ByteArray → Option (ByteArray)
 | 0, _, _, _, _ => none
 | k + 1, x479000, x479001, x479002, x479003 => (impl_NumText.f x479000).bind fun t480 => (if t480.size + 1 ≤ 9223372036854775807 then ((impl_NumText.f x479001).bind fun t481 => (if (t480 ++ (⟨#[46]⟩ : ByteArray)).size + t481.size ≤ 9223372036854775807 then (if ((t480 ++ (⟨#[46]⟩ : ByteArray)) ++ t481).size + 1 ≤ 9223372036854775807 then ((impl_NumText.f x479002).bind fun t482 => (if (((t480 ++ (⟨#[46]⟩ : ByteArray)) ++ t481) ++ (⟨#[46]⟩ : ByteArray)).size + t482.size ≤ 9223372036854775807 then (if (x479003.length : Int) > 0 then ((strings_Join.f x479003 (⟨#[46]⟩ : ByteArray)).bind fun t483 => (if 1 + t483.size ≤ 9223372036854775807 then (if ((((t480 ++ (⟨#[46]⟩ : ByteArray)) ++ t481) ++ (⟨#[46]⟩ : ByteArray)) ++ t482).size + ((⟨#[45]⟩ : ByteArray) ++ t483).size ≤ 9223372036854775807 then (some (((((t480 ++ (⟨#[46]⟩ : ByteArray)) ++ t481) ++ (⟨#[46]⟩ : ByteArray)) ++ t482) ++ ((⟨#[45]⟩ : ByteArray) ++ t483))) else (none)) else (none))) else (some ((((t480 ++ (⟨#[46]⟩ : ByteArray)) ++ t481) ++ (⟨#[46]⟩ : ByteArray)) ++ t482))) else (none))) else (none)) else (none))) else (none))
def impl_VerText.f (k : Nat) (a0_0 a0_1 a0_2 : Int) (l0_3 : List ByteArray) : Option (ByteArray) := (impl_VerOk.f k a0_0 a0_1 a0_2 l0_3).bind fun t479 => (if t479 = true then (impl_VerText.j0 k a0_0 a0_1 a0_2 l0_3) else (some (⟨#[]⟩ : ByteArray)))
def impl_VerText.T3 : Bool × List (List Nat × List Nat) := (true, [([], []), ([0], [0]), ([1], [1]), ([2], [2]), ([], []), ([4], [4]), ([5, 2], [5]), ([3, 6], [3, 6]), ([7], [7]), ([], []), ([9], [9]), ([10, 6], [10]), ([8, 11], [8, 11]), ([12, 11, 0, 1, 2, 3, 4, 5, 6, 7, 8, 9, 10, 11, 12], [12])])
def impl_VerText.B3 : List Nat := [0, 1, 3, 7, 0, 16, 55, 127, 255, 0, 512, 1655, 4095, 8191]
theorem impl_VerText.tab3 : rtab .any (opsOf Tryz.f102 3) = impl_VerText.T3 := by kernel_rfl
theorem impl_VerText.bits3 : waitsOk impl_VerText.T3.2 impl_VerText.B3 = true := by kernel_rfl
theorem impl_VerText.calls (k : Nat) (a0_0 a0_1 a0_2 : Int) (A0_3 : Option Addr) (c0_3 : Nat) (l0_3 : List ByteArray) (r : ByteArray) (w : World) (hr0_3 : Kd.C Kd.string w A0_3 l0_3.length l0_3) (hc0_3 : l0_3.length ≤ c0_3) (hG : GW w) (h : impl_VerText.f k a0_0 a0_1 a0_2 l0_3 = some r) :
  Calls Tryz.prog 102 #[.agg #[.int .i64 a0_0, .int .i64 a0_1, .int .i64 a0_2, .slice A0_3 l0_3.length c0_3]] w fun e w' => e = .returned (.string r) ∧ Below w.heap.size w w' := by
 have hu32 := Tryz.underlying32
 have HR0_3 := Aside0.mk hr0_3
 have HC0_3 := Aside0.mk hc0_3
 clear hr0_3 hc0_3
 have HG := Aside0.mk hG
 clear hG
 have HB := zA (Below.refl w.heap.size w)
 unfold impl_VerText.f at h
 have H := h
 clear h
 replace H := zj H
 obtain ⟨t479, A2, H⟩ := H
 try dsimp only at H
 have HC3 := Aside0.mk H
 clear H
 go_enter Tryz.func102, Tryz.ntmps102
 go_upto_if 6 with (first | ((with_reducible refine zd 1 ?_); refine ze 1 32 #[.int .i64 a0_0, .int .i64 a0_1, .int .i64 a0_2, .slice A0_3 l0_3.length c0_3] ?_; intro gb478 hg w4 hbox hb; have BK478 := zA (hbox); have GW478 := zi HB hg; have GE478 := zi HB hg; replace HB := zA (below_step (zB) hb); clear hb hbox hg; obtain ⟨hcz5_0, hcz5_1, hcz5_2, hcz5_3, hfz5_0, hfz5_1, hfz5_2, hfz5_3⟩ := ze4 BK478.out) | ((with_reducible refine zq 71 ?_); refine zg (some 5) Tryz.func71 #[.agg #[.int .i64 a0_0, .int .i64 a0_1, .int .i64 a0_2, .slice A0_3 l0_3.length c0_3]] ?_; (with_reducible refine (impl_VerOk.calls k a0_0 a0_1 a0_2 _ _ l0_3 t479 _ ?side1 ?side2 A2.out).mono ?_); (case side1 => exact zC (Kd.C_below HR0_3.out HB.out)); (case side2 => exact HC0_3.out); rintro e w6 ⟨rfl, hb⟩; refine ⟨_, rfl, ?_⟩; replace BK478 := zb BK478 hb; replace HB := zh HB hb; (try clear hb)))
 (try simp only [Act.put, zT])
 go_cut [] (fun wc => ∃ (kq : Nat), Aside0 (impl_VerText.j0 kq a0_0 a0_1 a0_2 l0_3 = some r) ∧ Aside0 (kq ≤ k) ∧ Aside0 (wc.heap[gb478]? = some (.cells #[.int .i64 a0_0, .int .i64 a0_1, .int .i64 a0_2, (.slice A0_3 l0_3.length c0_3)] 32 (0, 0))) ∧ Aside0 (Below w.heap.size w wc))
 case first =>
  have H := HC3.out
  clear HC3
  replace H := zB0 H
  rcases H with ⟨rfl, H⟩ | ⟨rfl, H⟩
  ·have H' := Aside0.mk H
   clear H
   go_wp2
   go_meet
   case rel => exact ⟨_, (by first | exact H' | (subst_vars; exact H')), ⟨by first | omega | exact Nat.le_refl _⟩, ⟨zK BK478.out⟩, ⟨zW HB.out⟩⟩
  ·obtain rfl := Option.some.inj H
   go_wp2
   go_ret
   exact ⟨zE, zW HB.out⟩
 case rest =>
  clear HC3
  try clear c1
  try clear p2
  try clear c7
  try clear hcz5_0 hcz5_1 hcz5_2 hcz5_3 hfz5_0 hfz5_1 hfz5_2 hfz5_3
  obtain ⟨kq, HA, HJ2, BK478, HB⟩ := hcut
  cases kq with
  | zero => exact absurd HA.out (by simp [impl_VerText.j0])
  | succ kj2 =>
   have H := HA.out
   clear HA
   simp only [impl_VerText.j0] at H
   replace H := zj H
   obtain ⟨t480, A8, H⟩ := H
   try dsimp only at H
   replace H := zC0 H
   obtain ⟨c9, H⟩ := H
   have c9b0 := eq_true c9
   have c9b1 := decide_eq_true c9
   try have c9b2 : (9223372036854775807 < t480.size + 1) = False := eq_false (Nat.not_lt.2 c9)
   replace H := zj H
   obtain ⟨t481, A10, H⟩ := H
   try dsimp only at H
   replace H := zC0 H
   obtain ⟨c11, H⟩ := H
   have c11b0 := eq_true c11
   have c11b1 := decide_eq_true c11
   try have c11b2 : (9223372036854775807 < (t480 ++ (⟨#[46]⟩ : ByteArray)).size + t481.size) = False := eq_false (Nat.not_lt.2 c11)
   try have c11b3 : (9223372036854775807 < t480.size + 1 + t481.size) = False := (by have z_ := c11; (try simp only [ByteArray.size_append] at z_); exact eq_false (Nat.not_lt.2 z_))
   replace H := zC0 H
   obtain ⟨c12, H⟩ := H
   have c12b0 := eq_true c12
   have c12b1 := decide_eq_true c12
   try have c12b2 : (9223372036854775807 < ((t480 ++ (⟨#[46]⟩ : ByteArray)) ++ t481).size + 1) = False := eq_false (Nat.not_lt.2 c12)
   try have c12b3 : (9223372036854775807 < t480.size + 1 + t481.size + 1) = False := (by have z_ := c12; (try simp only [ByteArray.size_append] at z_); exact eq_false (Nat.not_lt.2 z_))
   replace H := zj H
   obtain ⟨t482, A13, H⟩ := H
   try dsimp only at H
   replace H := zC0 H
   obtain ⟨c14, H⟩ := H
   have c14b0 := eq_true c14
   have c14b1 := decide_eq_true c14
   try have c14b2 : (9223372036854775807 < (((t480 ++ (⟨#[46]⟩ : ByteArray)) ++ t481) ++ (⟨#[46]⟩ : ByteArray)).size + t482.size) = False := eq_false (Nat.not_lt.2 c14)
   try have c14b3 : (9223372036854775807 < t480.size + 1 + t481.size + 1 + t482.size) = False := (by have z_ := c14; (try simp only [ByteArray.size_append] at z_); exact eq_false (Nat.not_lt.2 z_))
   replace H := zI1 H
   rcases H with ⟨c15, H⟩ | ⟨c15, H⟩
   ·have c15b0 : decide (0 < (l0_3.length : Int)) = true := decide_eq_true c15
    have c15b1 : decide (0 < l0_3.length) = true := decide_eq_true (by omega)
    clear c15
    replace H := zj H
    obtain ⟨t483, A16, H⟩ := H
    try dsimp only at H
    replace H := zC0 H
    obtain ⟨c17, H⟩ := H
    have c17b0 := eq_true c17
    have c17b1 := decide_eq_true c17
    try have c17b2 : (9223372036854775807 < 1 + t483.size) = False := eq_false (Nat.not_lt.2 c17)
    replace H := zC0 H
    obtain ⟨c18, H⟩ := H
    have c18b0 := eq_true c18
    have c18b1 := decide_eq_true c18
    try have c18b2 : (9223372036854775807 < ((((t480 ++ (⟨#[46]⟩ : ByteArray)) ++ t481) ++ (⟨#[46]⟩ : ByteArray)) ++ t482).size + ((⟨#[45]⟩ : ByteArray) ++ t483).size) = False := eq_false (Nat.not_lt.2 c18)
    try have c18b3 : (9223372036854775807 < t480.size + 1 + t481.size + 1 + t482.size + (1 + t483.size)) = False := (by have z_ := c18; (try simp only [ByteArray.size_append] at z_); exact eq_false (Nat.not_lt.2 z_))
    obtain rfl := Option.some.inj H
    try go_wp2
    replace BK478 := zA (blk_drew BK478.out)
    replace HB := zA (below_drew1 HB.out)
    refine start_ (n := 14) (S := fun w' => w'.cell? ⟨gb478, 0, none⟩ = some (.int .i64 a0_0) ∧ w'.cell? ⟨gb478, 1, none⟩ = some (.int .i64 a0_1) ∧ w'.cell? ⟨gb478, 2, none⟩ = some (.int .i64 a0_2) ∧ w'.cell? ⟨gb478, 3, none⟩ = some (.slice A0_3 l0_3.length c0_3)) (ds := []) (Array.replicate 14 false) (by kernel_rfl) rfl rfl zO fun hHeld => ?_; refine with_tabW impl_VerText.tab3 impl_VerText.bits3 (fun HT_ HW_ => ?_)
    generalize wc.drew = w19 at BK478 HB hHeld ⊢
    refine zp 0 7 ?_
    refine zp 4 11 ?_
    refine zp 9 16 ?_
    refine zt 1 8 ?_
    refine zt 5 12 ?_
    refine zt 10 17 ?_
    refine zo 2 (some 9) fun K hK => ?_
    refine goes_ Tryz.func143 (by kernel_rfl) rfl #[.int .i64 a0_0] (by rfl) rfl rfl zM ?_
    with_reducible refine (impl_NumText.calls a0_0 t480 _ ?side1 A8.out).mono ?_
    (case side1 => exact GW.below HG.out (zW HB.out))
    rintro e w20 ⟨rfl, hb⟩
    refine ⟨_, rfl, ?_⟩
    replace BK478 := zb BK478 hb
    replace HB := zh HB hb
    (try clear hb)
    refine hK.out _ _ zO fun hHeld => ?_
    clear hK K
    refine zn ?_
    refine zp 3 10 ?_
    refine zo 6 (some 13) fun K hK => ?_
    refine goes_ Tryz.func143 (by kernel_rfl) rfl #[.int .i64 a0_1] (by rfl) rfl rfl zM ?_
    with_reducible refine (impl_NumText.calls a0_1 t481 _ ?side1 A10.out).mono ?_
    (case side1 => exact GW.below HG.out (zW HB.out))
    rintro e w21 ⟨rfl, hb⟩
    refine ⟨_, rfl, ?_⟩
    replace BK478 := zb BK478 hb
    replace HB := zh HB hb
    (try clear hb)
    refine hK.out _ _ zO fun hHeld => ?_
    clear hK K
    refine zn ?_
    refine zp 7 14 ?_
    refine zp 8 15 ?_
    refine zo 11 (some 18) fun K hK => ?_
    refine goes_ Tryz.func143 (by kernel_rfl) rfl #[.int .i64 a0_2] (by rfl) rfl rfl zM ?_
    with_reducible refine (impl_NumText.calls a0_2 t482 _ ?side1 A13.out).mono ?_
    (case side1 => exact GW.below HG.out (zW HB.out))
    rintro e w22 ⟨rfl, hb⟩
    refine ⟨_, rfl, ?_⟩
    replace BK478 := zb BK478 hb
    replace HB := zh HB hb
    (try clear hb)
    refine hK.out _ _ zO fun hHeld => ?_
    clear hK K
    refine zn ?_
    refine zp 12 19 ?_
    refine zp 13 3 ?_
    refine done_ (done_of HT_.out (by kernel_rfl)) ?_
    obtain ⟨hcz23_0, hcz23_1, hcz23_2, hcz23_3, hfz23_0, hfz23_1, hfz23_2, hfz23_3⟩ := ze4 BK478.out
    try go_wp2_with (first | ((with_reducible refine zq 103 ?_); refine zg (some 27) Tryz.func103 #[.slice A0_3 l0_3.length c0_3, .string (⟨#[46]⟩ : ByteArray)] ?_; (with_reducible refine (strings_Join.calls _ _ l0_3 (⟨#[46]⟩ : ByteArray) t483 _ ?side1 ?side2 A16.out).mono ?_); (case side1 => exact zC (Kd.C_below HR0_3.out HB.out)); (case side2 => exact HC0_3.out); rintro e w24 ⟨rfl, hb⟩; refine ⟨_, rfl, ?_⟩; replace BK478 := zb BK478 hb; replace HB := zh HB hb; (try clear hb)))
    go_ret
    exact ⟨zE, zW HB.out⟩
   ·have c15b0 : decide (0 < (l0_3.length : Int)) = false := decide_eq_false c15
    have c15b1 : decide (0 < l0_3.length) = false := decide_eq_false (by omega)
    clear c15
    obtain rfl := Option.some.inj H
    try go_wp2
    replace BK478 := zA (blk_drew BK478.out)
    replace HB := zA (below_drew1 HB.out)
    refine start_ (n := 14) (S := fun w' => w'.cell? ⟨gb478, 0, none⟩ = some (.int .i64 a0_0) ∧ w'.cell? ⟨gb478, 1, none⟩ = some (.int .i64 a0_1) ∧ w'.cell? ⟨gb478, 2, none⟩ = some (.int .i64 a0_2) ∧ w'.cell? ⟨gb478, 3, none⟩ = some (.slice A0_3 l0_3.length c0_3)) (ds := []) (Array.replicate 14 false) (by kernel_rfl) rfl rfl zO fun hHeld => ?_; refine with_tabW impl_VerText.tab3 impl_VerText.bits3 (fun HT_ HW_ => ?_)
    generalize wc.drew = w25 at BK478 HB hHeld ⊢
    refine zp 0 7 ?_
    refine zp 4 11 ?_
    refine zp 9 16 ?_
    refine zt 1 8 ?_
    refine zt 5 12 ?_
    refine zt 10 17 ?_
    refine zo 2 (some 9) fun K hK => ?_
    refine goes_ Tryz.func143 (by kernel_rfl) rfl #[.int .i64 a0_0] (by rfl) rfl rfl zM ?_
    with_reducible refine (impl_NumText.calls a0_0 t480 _ ?side1 A8.out).mono ?_
    (case side1 => exact GW.below HG.out (zW HB.out))
    rintro e w26 ⟨rfl, hb⟩
    refine ⟨_, rfl, ?_⟩
    replace BK478 := zb BK478 hb
    replace HB := zh HB hb
    (try clear hb)
    refine hK.out _ _ zO fun hHeld => ?_
    clear hK K
    refine zn ?_
    refine zp 3 10 ?_
    refine zo 6 (some 13) fun K hK => ?_
    refine goes_ Tryz.func143 (by kernel_rfl) rfl #[.int .i64 a0_1] (by rfl) rfl rfl zM ?_
    with_reducible refine (impl_NumText.calls a0_1 t481 _ ?side1 A10.out).mono ?_
    (case side1 => exact GW.below HG.out (zW HB.out))
    rintro e w27 ⟨rfl, hb⟩
    refine ⟨_, rfl, ?_⟩
    replace BK478 := zb BK478 hb
    replace HB := zh HB hb
    (try clear hb)
    refine hK.out _ _ zO fun hHeld => ?_
    clear hK K
    refine zn ?_
    refine zp 7 14 ?_
    refine zp 8 15 ?_
    refine zo 11 (some 18) fun K hK => ?_
    refine goes_ Tryz.func143 (by kernel_rfl) rfl #[.int .i64 a0_2] (by rfl) rfl rfl zM ?_
    with_reducible refine (impl_NumText.calls a0_2 t482 _ ?side1 A13.out).mono ?_
    (case side1 => exact GW.below HG.out (zW HB.out))
    rintro e w28 ⟨rfl, hb⟩
    refine ⟨_, rfl, ?_⟩
    replace BK478 := zb BK478 hb
    replace HB := zh HB hb
    (try clear hb)
    refine hK.out _ _ zO fun hHeld => ?_
    clear hK K
    refine zn ?_
    refine zp 12 19 ?_
    refine zp 13 3 ?_
    refine done_ (done_of HT_.out (by kernel_rfl)) ?_
    obtain ⟨hcz29_0, hcz29_1, hcz29_2, hcz29_3, hfz29_0, hfz29_1, hfz29_2, hfz29_3⟩ := ze4 BK478.out
    try go_wp2
    go_ret
    exact ⟨zE, zW HB.out⟩
/-! ### strings_Cut: function 165 -/
def strings_Cut.f (a0 a1 : ByteArray) : Option (ByteArray × ByteArray × Bool) := if a0.size < 4294967281 then some (⟨(Lib.cut a0.data.toList a1.data.toList).1.toArray⟩, ⟨(Lib.cut a0.data.toList a1.data.toList).2.1.toArray⟩, (Lib.cut a0.data.toList a1.data.toList).2.2) else none
theorem strings_Cut.calls (a0 a1 r1 r2 : ByteArray) (r3 : Bool) (w : World) (hG : GW w) (h : strings_Cut.f a0 a1 = some (r1, r2, r3)) :
  Calls Tryz.prog 165 #[.string a0, .string a1] w fun e w' => e = .returned (.tuple #[.string r1, .string r2, .bool r3]) ∧ Below w.heap.size w w' := by
 unfold strings_Cut.f at h
 split at h
 ·rename_i hs
  obtain ⟨rfl, h2⟩ := Prod.mk.inj (Option.some.inj h)
  obtain ⟨rfl, rfl⟩ := Prod.mk.inj h2
  obtain ⟨m, hm⟩ := hG.maxLen
  refine (Tryz.strings_Cut a0 a1 m w hs hm).mono ?_
  rintro e w' ⟨rfl, k, rfl⟩
  exact ⟨rfl, pw_below_drewN (Below.refl _ _) _⟩
 ·cases h
/-! ### impl_ParseNum: function 166 -/
mutual
def impl_ParseNum.j0 : Nat → ByteArray → Int → Option (Int × Bool)
 | 0, _, _ => none
 | k + 1, x0, x1 => impl_ParseNum.l0 k x0 x1 0 0
def impl_ParseNum.l0 : Nat → ByteArray → Int → Int → Int → Option (Int × Bool)
 | 0, _, _, _, _ => none
 | k + 1, x0, x1, x6, x7 => if x7 < (x0.size : Int) then (if 0 ≤ x7 then ((impl_isFigure.f (bt x0 x7)).bind fun t485 => (if t485 = true then (impl_ParseNum.l0 k x0 x1 (wrap64 ((wrap64 (x6 * 10)) + (((bt x0 x7) - 48) % 256))) (wrap64 (x7 + 1))) else (some (0, false)))) else (none)) else ((impl_NumText.f x6).bind fun t486 => (if t486.toList = x0.toList then (if x6 > x1 then (some (0, false)) else (some (x6, true))) else (some (0, false))))
end
def impl_ParseNum.f (k : Nat) (a0 : ByteArray) (a1 : Int) : Option (Int × Bool) := (impl_inRange.f (a0.size : Int) 1 7).bind fun t484 => (if t484 = true then (impl_ParseNum.j0 k a0 a1) else (some (0, false)))
theorem impl_ParseNum.calls (k : Nat) (a0 : ByteArray) (a1 r1 : Int) (r2 : Bool) (w : World) (hG : GW w) (h : impl_ParseNum.f k a0 a1 = some (r1, r2)) :
  Calls Tryz.prog 166 #[.string a0, .int .i64 a1] w fun e w' => e = .returned (.tuple #[.int .i64 r1, .bool r2]) ∧ Below w.heap.size w w' := by
 have HG := Aside0.mk hG
 clear hG
 have HB := zA (Below.refl w.heap.size w)
 unfold impl_ParseNum.f at h
 have H := h
 clear h
 replace H := zj H
 obtain ⟨t484, A3, H⟩ := H
 try dsimp only at H
 have HC4 := Aside0.mk H
 clear H
 go_enter Tryz.func166, Tryz.ntmps166
 go_upto_if 11 with (first | ((with_reducible refine zq 113 ?_); refine zg (some 10) Tryz.func113 #[.int .i64 (a0.size : Int), .int .i64 1, .int .i64 7] ?_; (with_reducible refine (impl_inRange.calls (a0.size : Int) 1 7 t484 _ A3.out).mono ?_); rintro e w' ⟨rfl, ⟨nd, rfl⟩⟩; refine ⟨_, rfl, ?_⟩))
 (try simp only [Act.put, zT])
 go_cut [] (fun wc => ∃ (kq : Nat), Aside0 (impl_ParseNum.j0 kq a0 a1 = some (r1, r2)) ∧ Aside0 (kq ≤ k) ∧ Aside0 (Below w.heap.size w wc))
 case first =>
  have H := HC4.out
  clear HC4
  replace H := zB0 H
  rcases H with ⟨rfl, H⟩ | ⟨rfl, H⟩
  ·have H' := Aside0.mk H
   clear H
   go_wp2
   go_meet
   case rel => exact ⟨_, (by first | exact H' | (subst_vars; exact H')), ⟨by first | omega | exact Nat.le_refl _⟩, ⟨zB⟩⟩
  ·simp only [Option.some.injEq, Prod.mk.injEq] at H
   obtain ⟨rfl, rfl⟩ := H
   go_wp2
   go_ret2
   exact ⟨zE, zB⟩
 case rest =>
  clear HC4
  try clear c1
  try clear p2
  try clear c5
  obtain ⟨kq, HA, HJ3, HB⟩ := hcut
  cases kq with
  | zero => exact absurd HA.out (by simp [impl_ParseNum.j0])
  | succ kj3 =>
   have H := HA.out
   clear HA
   simp only [impl_ParseNum.j0] at H
   have H' := Aside0.mk H
   clear H
   go_wp2
   go_loopg [6, 7] kj3 (fun kq v6 v7 w' => ∃ (x6_2 : Int) (x7_2 : Int), v6 = .int .i64 x6_2 ∧ v7 = .int .i64 x7_2 ∧ Aside0 (impl_ParseNum.l0 kq a0 a1 x6_2 x7_2 = some (r1, r2)) ∧ Aside0 (kq ≤ kj3) ∧ Aside0 (Below w.heap.size w w'))
   case atStart => exact ⟨(0), (0), zS, zS, H', ⟨Nat.le_refl _⟩, ⟨zB⟩⟩
   case round =>
    clear H'
    try clear c1
    try clear p2
    try clear c5
    try clear p2
    obtain ⟨x6_2, x7_2, rfl, rfl, HA, HK2, HB⟩ := hrel
    cases gk with
    | zero => exact absurd HA.out (by simp [impl_ParseNum.l0])
    | succ k2 =>
     have H := HA.out
     clear HA
     simp only [impl_ParseNum.l0] at H
     replace H := zI0 H
     rcases H with ⟨c6b0, H⟩ | ⟨c6b0, H⟩
     ·replace H := zD0 H
      obtain ⟨c7b0, H⟩ := H
      replace H := zj H
      obtain ⟨t485, A9, H⟩ := H
      try dsimp only at H
      replace H := zB0 H
      rcases H with ⟨rfl, H⟩ | ⟨rfl, H⟩
      ·have H' := Aside0.mk H
       clear H
       have p8 : 0 ≤ (x7_2 : Int) := zD
       have q8 : x7_2 < (a0.size : Int) := zD
       have hx8 := bt_at a0 x7_2
       replace p8 := eq_true p8
       replace q8 := eq_true q8
       go_wp2_with (first | ((with_reducible refine zq 115 ?_); refine zg (some 21) Tryz.func115 #[.int .u8 (bt a0 x7_2)] ?_; (with_reducible refine (impl_isFigure.calls (bt a0 x7_2) true _ A9.out).mono ?_); rintro e w' ⟨rfl, ⟨nd, rfl⟩⟩; refine ⟨_, rfl, ?_⟩; have p11 : 0 ≤ (x7_2 : Int) := zD; have q11 : x7_2 < (a0.size : Int) := zD; have hx11 := bt_at a0 x7_2; replace p11 := eq_true p11; replace q11 := eq_true q11))
       go_roundg k2
       case measure => have := HJ3.out; have := HK2.out; omega
       case rel => exact ⟨(wrap64 ((wrap64 (x6_2 * 10)) + (((bt a0 x7_2) - 48) % 256))), (wrap64 (x7_2 + 1)), zS, zS, H', ⟨by have := HJ3.out; have := HK2.out; omega⟩, ⟨zB⟩⟩
      ·simp only [Option.some.injEq, Prod.mk.injEq] at H
       obtain ⟨rfl, rfl⟩ := H
       have p8 : 0 ≤ (x7_2 : Int) := zD
       have q8 : x7_2 < (a0.size : Int) := zD
       have hx8 := bt_at a0 x7_2
       replace p8 := eq_true p8
       replace q8 := eq_true q8
       go_wp2_with (first | ((with_reducible refine zq 115 ?_); refine zg (some 21) Tryz.func115 #[.int .u8 (bt a0 x7_2)] ?_; (with_reducible refine (impl_isFigure.calls (bt a0 x7_2) false _ A9.out).mono ?_); rintro e w' ⟨rfl, ⟨nd, rfl⟩⟩; refine ⟨_, rfl, ?_⟩))
       go_ret2
       exact ⟨zE, zB⟩
     ·replace H := zj H
      obtain ⟨t486, A12, H⟩ := H
      try dsimp only at H
      replace H := zI1 H
      rcases H with ⟨c13, H⟩ | ⟨c13, H⟩
      ·have c13b0 := beq_iff_eq.mpr c13
       have c13b1 := bne_eq_false_iff_eq.mpr c13
       clear c13
       replace H := zI1 H
       rcases H with ⟨c14, H⟩ | ⟨c14, H⟩
       ·have c14b0 : decide (a1 < x6_2) = true := decide_eq_true c14
        clear c14
        simp only [Option.some.injEq, Prod.mk.injEq] at H
        obtain ⟨rfl, rfl⟩ := H
        go_wp2_with (first | ((with_reducible refine zq 143 ?_); refine zg (some 32) Tryz.func143 #[.int .i64 x6_2] ?_; (with_reducible refine (impl_NumText.calls x6_2 t486 _ ?side1 A12.out).mono ?_); (case side1 => exact GW.below HG.out (zB)); rintro e w15 ⟨rfl, hb⟩; refine ⟨_, rfl, ?_⟩; replace HB := zA (below_step (zB) hb); (try clear hb)))
        go_ret2
        exact ⟨zE, zB⟩
       ·have c14b0 : decide (a1 < x6_2) = false := decide_eq_false c14
        clear c14
        simp only [Option.some.injEq, Prod.mk.injEq] at H
        obtain ⟨rfl, rfl⟩ := H
        go_wp2_with (first | ((with_reducible refine zq 143 ?_); refine zg (some 32) Tryz.func143 #[.int .i64 x6_2] ?_; (with_reducible refine (impl_NumText.calls x6_2 t486 _ ?side1 A12.out).mono ?_); (case side1 => exact GW.below HG.out (zB)); rintro e w16 ⟨rfl, hb⟩; refine ⟨_, rfl, ?_⟩; replace HB := zA (below_step (zB) hb); (try clear hb)))
        go_ret2
        exact ⟨zE, zB⟩
      ·have c13b0 := beq_eq_false_iff_ne.mpr c13
       have c13b1 := bne_iff_ne.mpr c13
       simp only [Option.some.injEq, Prod.mk.injEq] at H
       obtain ⟨rfl, rfl⟩ := H
       go_wp2_with (first | ((with_reducible refine zq 143 ?_); refine zg (some 32) Tryz.func143 #[.int .i64 x6_2] ?_; (with_reducible refine (impl_NumText.calls x6_2 t486 _ ?side1 A12.out).mono ?_); (case side1 => exact GW.below HG.out (zB)); rintro e w17 ⟨rfl, hb⟩; refine ⟨_, rfl, ?_⟩; replace HB := zA (below_step (zB) hb); (try clear hb)))
       go_ret2
       exact ⟨zE, zB⟩
end Go.Proofs.YtpcdhoeoefoeoaaGreatDoor.PGA
