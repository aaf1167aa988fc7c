/- The walks of the functions that these laws reach, and what each comes to: printed by this session's program. -/
import Derived.Test.YtpcdhoeoefoeoaaGreatDoorZGAPGAx0
import Derived.Test.YtpcdhoeoefoeoaaGreatDoorZGAPGAx1
import Derived.Test.YtpcdhoeoefoeoaaGreatDoorZGAPGAx12
import Derived.Test.YtpcdhoeoefoeoaaGreatDoorZGAPGAx20
import Derived.Test.YtpcdhoeoefoeoaaGreatDoorZGASays
import Derived.Test.YtpcdhoeoefoeoaaGreatDoorZGARegs
namespace Go.Proofs.YtpcdhoeoefoeoaaGreatDoor.PGA
open Go.RowKit YtpcdhoeoefoeoaaGreatDoorW.PrintWords YtpcdhoeoefoeoaaGreatDoorW.PrintLast YtpcdhoeoefoeoaaGreatDoorW.PrintMore
attribute [local go_sem high] Mine.str_gtr Mine.str_leq Mine.str_geq
attribute [local go_sem] max2_int min2_int max_two min_two max_three min_three max_four min_four   -- for this text's walks alone
set_option linter.unusedVariables false
set_option maxHeartbeats 8000000
set_option maxRecDepth 100000
set_option linter.unusedSimpArgs false
/-! ### laws_FnExactMayTake: function 3 -/
mutual
def laws_FnExactMayTake.j0 : Nat → Int → ByteArray → ByteArray → Int → Int → Int → List ByteArray → Option (Bool)
 | 0, _, _, _, _, _, _, _ => none
 | k + 1, x5, x675000, x675001, x676000, x676001, x676002, x676003 => (laws_szVer.f k x676000 x676001 x676002 x676003 x5).bind fun t677 => (if t677 < 0 then (some true) else (laws_FnExactMayTake.j1 k x675000 x675001 x676000 x676001 x676002 x676003))
def laws_FnExactMayTake.j1 : Nat → ByteArray → ByteArray → Int → Int → Int → List ByteArray → Option (Bool)
 | 0, _, _, _, _, _, _ => none
 | k + 1, x675000, x675001, x676000, x676001, x676002, x676003 => (laws_toNeed.f x675000 x675001).bind fun bt678 => ((laws_toVer.f k x676000 x676001 x676002 x676003).bind fun bt680 => ((spec_MayTake.f k bt678.1 bt678.2 bt680.1 bt680.2.1 bt680.2.2.1 bt680.2.2.2).bind fun t686 => ((laws_toVer.f k x676000 x676001 x676002 x676003).bind fun bt687 => ((laws_toNeed.f x675000 x675001).bind fun bt694 => ((impl_MayTake.f k bt694.1 bt694.2 bt687.1 bt687.2.1 bt687.2.2.1 bt687.2.2.2).bind fun t696 => (if (t696 != t686) = true then (none) else (laws_FnExactMayTake.j2 k x676000 x676001 x676002 x676003 bt687.1 bt687.2.1 bt687.2.2.1 bt687.2.2.2)))))))
def laws_FnExactMayTake.j2 : Nat → Int → Int → Int → List ByteArray → Int → Int → Int → List ByteArray → Option (Bool)
 | 0, _, _, _, _, _, _, _, _ => none
 | k + 1, x676000, x676001, x676002, x676003, x694000, x694001, x694002, x694003 => (laws_toVer.f k x676000 x676001 x676002 x676003).bind fun bt697 => ((laws_eqVer.f k x694000 x694001 x694002 x694003 bt697.1 bt697.2.1 bt697.2.2.1 bt697.2.2.2).bind fun t703 => (if t703 = true then (some true) else (none)))
end
def laws_FnExactMayTake.f (k : Nat) (a0_0 a0_1 : ByteArray) (a1_0 a1_1 a1_2 : Int) (l1_3 : List ByteArray) : Option (Bool) := (laws_szNeed.f a0_0 a0_1 1048576).bind fun t676 => (if t676 < 0 then (some true) else (laws_FnExactMayTake.j0 k t676 a0_0 a0_1 a1_0 a1_1 a1_2 l1_3))
theorem laws_FnExactMayTake.calls (k : Nat) (a0_0 a0_1 : ByteArray) (a1_0 a1_1 a1_2 : Int) (A1_3 : Option Addr) (c1_3 : Nat) (l1_3 : List ByteArray) (r : Bool) (w : World) (hr1_3 : Kd.C Kd.string w A1_3 l1_3.length l1_3) (hc1_3 : l1_3.length ≤ c1_3) (hG : GW w) (h : laws_FnExactMayTake.f k a0_0 a0_1 a1_0 a1_1 a1_2 l1_3 = some r) :
  Calls Tryz.prog 3 #[.agg #[.string a0_0, .string a0_1], .agg #[.int .i64 a1_0, .int .i64 a1_1, .int .i64 a1_2, .slice A1_3 l1_3.length c1_3]] w fun e w' => e = .returned (.bool r) ∧ Below w.heap.size w w' := by
 have hu23 := Tryz.underlying23
 have hu26 := Tryz.underlying26
 have hu32 := Tryz.underlying32
 have HR1_3 := Aside0.mk hr1_3
 have HC1_3 := Aside0.mk hc1_3
 clear hr1_3 hc1_3
 have HG := Aside0.mk hG
 clear hG
 have HB := zA (Below.refl w.heap.size w)
 unfold laws_FnExactMayTake.f at h
 have H := h
 clear h
 replace H := zj H
 obtain ⟨t676, A3, H⟩ := H
 try dsimp only at H
 have HC4 := Aside0.mk H
 clear H
 go_enter Tryz.func3, Tryz.ntmps3
 go_upto_if 13 with (first | ((with_reducible refine zd 2 ?_); refine ze 2 23 #[.string a0_0, .string a0_1] ?_; intro gb674 hg w5 hbox hb; have BK674 := zA (hbox); have GW674 := zi HB hg; have GE674 := zi HB hg; replace HB := zA (below_step (zB) hb); clear hb hbox hg) | ((with_reducible refine zd 3 ?_); refine ze 3 26 #[.int .i64 a1_0, .int .i64 a1_1, .int .i64 a1_2, .slice A1_3 l1_3.length c1_3] ?_; intro gb675 hg w6 hbox hb; have BK675 := zA (hbox); have GW675 := zi HB hg; have GE675 := zi HB hg; replace HB := zh HB hb; have NB674_675 := zA (zL hg (zK BK674.out)); have NB675_674 := zA (zJ hg (zK BK674.out)); replace BK674 := zb BK674 hb; clear hb hbox hg; have hnb7 := NB674_675.out; have hnc7 := NB675_674.out; obtain ⟨hcz8_0, hcz8_1, hfz8_0, hfz8_1⟩ := ze2 BK674.out) | ((with_reducible refine zq 9 ?_); refine zg (some 11) Tryz.func9 #[.agg #[.string a0_0, .string a0_1], .int .i64 1048576] ?_; (with_reducible refine (laws_szNeed.calls a0_0 a0_1 1048576 t676 _ A3.out).mono ?_); rintro e w9 ⟨rfl, hb⟩; refine ⟨_, rfl, ?_⟩; replace BK674 := zb BK674 hb; replace BK675 := zb BK675 hb; replace HB := zh HB hb; (try clear hb)))
 (try simp only [Act.put, zT])
 go_cut [] (fun wc => ∃ (kq : Nat), Aside0 (laws_FnExactMayTake.j0 kq t676 a0_0 a0_1 a1_0 a1_1 a1_2 l1_3 = some r) ∧ Aside0 (kq ≤ k) ∧ Aside0 (wc.heap[gb674]? = some (.cells #[.string a0_0, .string a0_1] 23 (0, 0))) ∧ Aside0 (wc.heap[gb675]? = some (.cells #[.int .i64 a1_0, .int .i64 a1_1, .int .i64 a1_2, (.slice A1_3 l1_3.length c1_3)] 26 (0, 0))) ∧ Aside0 (Below w.heap.size w wc))
 case first =>
  have H := HC4.out
  clear HC4
  replace H := zI0 H
  rcases H with ⟨c10b0, H⟩ | ⟨c10b0, H⟩
  ·(first | rw [c10b0] | (simp only [i64_w, i32_w]; rw [c10b0]) | skip)
   obtain rfl := Option.some.inj H
   go_wp2
   go_ret
   exact ⟨zE, zW HB.out⟩
  ·(first | rw [c10b0] | (simp only [i64_w, i32_w]; rw [c10b0]) | skip)
   have H' := Aside0.mk H
   clear H
   go_wp2
   go_meet
   case rel => exact ⟨_, (by first | exact H' | (subst_vars; exact H')), ⟨by first | omega | exact Nat.le_refl _⟩, ⟨zK BK674.out⟩, ⟨zK BK675.out⟩, ⟨zW HB.out⟩⟩
 case rest =>
  clear HC4
  try clear c1
  try clear p2
  try clear c3
  try clear c7
  try clear c9
  try clear c10
  try clear c10b0
  try clear hcz8_0 hcz8_1 hfz8_0 hfz8_1
  obtain ⟨kq, HA, HJ3, BK674, BK675, HB⟩ := hcut
  cases kq with
  | zero => exact absurd HA.out (by simp [laws_FnExactMayTake.j0])
  | succ kj3 =>
   have H := HA.out
   clear HA
   simp only [laws_FnExactMayTake.j0] at H
   replace H := zj H
   obtain ⟨t677, A11, H⟩ := H
   try dsimp only at H
   have HC12 := Aside0.mk H
   clear H
   have hnb13 := NB675_674.out
   have hnc13 := NB674_675.out
   obtain ⟨hcz14_0, hcz14_1, hcz14_2, hcz14_3, hfz14_0, hfz14_1, hfz14_2, hfz14_3⟩ := ze4 BK675.out
   go_upto_if 18 with (first | ((with_reducible refine zq 10 ?_); refine zg (some 16) Tryz.func10 #[.agg #[.int .i64 a1_0, .int .i64 a1_1, .int .i64 a1_2, .slice A1_3 l1_3.length c1_3], .int .i64 t676] ?_; (with_reducible refine (laws_szVer.calls kj3 a1_0 a1_1 a1_2 _ _ l1_3 t676 t677 _ ?side1 ?side2 A11.out).mono ?_); (case side1 => exact zC (Kd.C_below HR1_3.out HB.out)); (case side2 => exact HC1_3.out); rintro e w15 ⟨rfl, hb⟩; refine ⟨_, rfl, ?_⟩; replace BK674 := zb BK674 hb; replace BK675 := zb BK675 hb; replace HB := zh HB hb; (try clear hb)))
   (try simp only [Act.put, zT])
   go_cut [] (fun wc => ∃ (kq : Nat), Aside0 (laws_FnExactMayTake.j1 kq a0_0 a0_1 a1_0 a1_1 a1_2 l1_3 = some r) ∧ Aside0 (kq ≤ kj3) ∧ Aside0 (wc.heap[gb674]? = some (.cells #[.string a0_0, .string a0_1] 23 (0, 0))) ∧ Aside0 (wc.heap[gb675]? = some (.cells #[.int .i64 a1_0, .int .i64 a1_1, .int .i64 a1_2, (.slice A1_3 l1_3.length c1_3)] 26 (0, 0))) ∧ Aside0 (Below w.heap.size w wc))
   case first =>
    have H := HC12.out
    clear HC12
    replace H := zI0 H
    rcases H with ⟨c16b0, H⟩ | ⟨c16b0, H⟩
    ·(first | rw [c16b0] | (simp only [i64_w, i32_w]; rw [c16b0]) | skip)
     obtain rfl := Option.some.inj H
     go_wp2
     go_ret
     exact ⟨zE, zW HB.out⟩
    ·(first | rw [c16b0] | (simp only [i64_w, i32_w]; rw [c16b0]) | skip)
     have H' := Aside0.mk H
     clear H
     go_wp2
     go_meet
     case rel => exact ⟨_, (by first | exact H' | (subst_vars; exact H')), ⟨by have := HJ3.out; first | omega | exact Nat.le_refl _⟩, ⟨zK BK674.out⟩, ⟨zK BK675.out⟩, ⟨zW HB.out⟩⟩
   case rest =>
    clear HC12
    try clear c1
    try clear p2
    try clear c3
    try clear c7
    try clear c9
    try clear c10
    try clear c10b0
    try clear c13
    try clear c16
    try clear c16b0
    try clear hcz14_0 hcz14_1 hcz14_2 hcz14_3 hfz14_0 hfz14_1 hfz14_2 hfz14_3
    try clear hcz8_0 hcz8_1 hfz8_0 hfz8_1
    try clear p2
    obtain ⟨kq, HA, HJ11, BK674, BK675, HB⟩ := hcut
    cases kq with
    | zero => exact absurd HA.out (by simp [laws_FnExactMayTake.j1])
    | succ kj11 =>
     have H := HA.out
     clear HA
     simp only [laws_FnExactMayTake.j1] at H
     replace H := zj H
     obtain ⟨⟨t678, t679⟩, A17, H⟩ := H
     try dsimp only at H
     replace H := zj H
     obtain ⟨⟨t680, t681, t682, t683⟩, A18, H⟩ := H
     try dsimp only at H
     replace H := zj H
     obtain ⟨t686, A19, H⟩ := H
     try dsimp only at H
     replace H := zj H
     obtain ⟨⟨t687, t688, t689, t690⟩, A20, H⟩ := H
     try dsimp only at H
     replace H := zj H
     obtain ⟨⟨t694, t695⟩, A21, H⟩ := H
     try dsimp only at H
     replace H := zj H
     obtain ⟨t696, A22, H⟩ := H
     try dsimp only at H
     have HC23 := Aside0.mk H
     clear H
     try go_wp2
     replace BK674 := zA (blk_drew BK674.out)
     replace BK675 := zA (blk_drew BK675.out)
     replace HB := zA (below_drew1 HB.out)
     refine start_ (n := 6) (S := fun w' => w'.cell? ⟨gb674, 0, none⟩ = some (.string a0_0) ∧ w'.cell? ⟨gb674, 1, none⟩ = some (.string a0_1) ∧ w'.cell? ⟨gb675, 0, none⟩ = some (.int .i64 a1_0) ∧ w'.cell? ⟨gb675, 1, none⟩ = some (.int .i64 a1_1) ∧ w'.cell? ⟨gb675, 2, none⟩ = some (.int .i64 a1_2) ∧ w'.cell? ⟨gb675, 3, none⟩ = some (.slice A1_3 l1_3.length c1_3)) (ds := []) (Array.replicate 6 false) (by kernel_rfl) rfl rfl zO fun hHeld => ?_
     generalize wc.drew = w24 at BK674 BK675 HB hHeld ⊢
     refine zt 0 19 ?_
     refine zt 2 21 ?_
     refine zo 1 (some 20) fun K hK => ?_
     refine goes_ Tryz.func12 (by kernel_rfl) rfl #[.agg #[.string a0_0, .string a0_1]] (by rfl) rfl rfl zM ?_
     with_reducible refine (laws_toNeed.calls a0_0 a0_1 t678 t679 _ A17.out).mono ?_
     rintro e w25 ⟨rfl, hb⟩
     refine ⟨_, rfl, ?_⟩
     replace BK674 := zb BK674 hb
     replace BK675 := zb BK675 hb
     replace HB := zh HB hb
     (try clear hb)
     refine hK.out _ _ zO fun hHeld => ?_
     clear hK K
     refine zn ?_
     refine zo 3 (some 22) fun K hK => ?_
     refine goes_ Tryz.func13 (by kernel_rfl) rfl #[.agg #[.int .i64 a1_0, .int .i64 a1_1, .int .i64 a1_2, .slice A1_3 l1_3.length c1_3]] (by rfl) rfl rfl zM ?_
     with_reducible refine (laws_toVer.calls kj11 a1_0 a1_1 a1_2 _ _ l1_3 t680 t681 t682 t683 _ ?side1 ?side2 A18.out).mono ?_
     (case side1 => exact zC (Kd.C_below HR1_3.out HB.out))
     (case side2 => exact HC1_3.out)
     rintro e w26 ⟨v684, rfl, ho0, hb⟩
     refine ⟨_, rfl, ?_⟩
     have HO685 := zA (Kd.R_lower ho0 (below_size (zW HB.out)))
     replace BK674 := zb BK674 hb
     replace BK675 := zb BK675 hb
     replace HB := zh HB hb
     (try clear hb ho0)
     obtain ⟨Ao27, co27, eo27⟩ := Kd.R_slice HO685.out
     (first | subst eo27 | (injection eo27 with f1_ f2_ f3_; have f4_ := f1_.symm; have f5_ := f3_.symm; clear f1_ f2_ f3_; subst f4_; subst f5_))
     refine hK.out _ _ zO fun hHeld => ?_
     clear hK K
     refine zn ?_
     refine zo 4 (some 23) fun K hK => ?_
     refine goes_ Tryz.func11 (by kernel_rfl) rfl #[.agg #[.string t678, .string t679], .agg #[.int .i64 t680, .int .i64 t681, .int .i64 t682, .slice Ao27 t683.length co27]] (by rfl) rfl rfl zM ?_
     with_reducible refine (spec_MayTake.calls kj11 t678 t679 t680 t681 t682 _ _ t683 t686 _ ?side1 ?side2 A19.out).mono ?_
     (case side1 => repeat (first | exact (Kd.R_reads' HO685.out).2.2 | (with_reducible refine Kd.C_alloc ?_ _) | (with_reducible refine Kd.C_drewN ?_ _) | (with_reducible refine Kd.C_drew ?_)))
     (case side2 => exact (Kd.R_reads' HO685.out).2.1)
     rintro e w28 ⟨rfl, hb⟩
     refine ⟨_, rfl, ?_⟩
     replace HO685 := zr HO685 hb
     replace BK674 := zb BK674 hb
     replace BK675 := zb BK675 hb
     replace HB := zh HB hb
     (try clear hb)
     refine hK.out _ _ zO fun hHeld => ?_
     clear hK K
     refine zn ?_
     refine zp 5 6 ?_
     refine done_ (by kernel_rfl) ?_
     have hnb29 := NB675_674.out
     have hnc29 := NB674_675.out
     obtain ⟨hcz30_0, hcz30_1, hcz30_2, hcz30_3, hfz30_0, hfz30_1, hfz30_2, hfz30_3⟩ := ze4 BK675.out
     try go_wp2_with (first | ((with_reducible refine zq 13 ?_); refine zg (some 25) Tryz.func13 #[.agg #[.int .i64 a1_0, .int .i64 a1_1, .int .i64 a1_2, .slice A1_3 l1_3.length c1_3]] ?_; (with_reducible refine (laws_toVer.calls kj11 a1_0 a1_1 a1_2 _ _ l1_3 t687 t688 t689 t690 _ ?side1 ?side2 A20.out).mono ?_); (case side1 => exact zC (Kd.C_below HR1_3.out HB.out)); (case side2 => exact HC1_3.out); rintro e w31 ⟨v691, rfl, ho0, hb⟩; refine ⟨_, rfl, ?_⟩; have HO692 := zA (Kd.R_lower (Kd.R_new' ho0 (Kd.R_lt (zR HO685.out))) (below_size (zW HB.out))); replace HO685 := zA (Kd.R_elder' (zR HO685.out) (Kd.R_base ho0) hb); replace BK674 := zb BK674 hb; replace BK675 := zb BK675 hb; replace HB := zh HB hb; (try clear hb ho0)) | ((with_reducible refine zd 7 ?_); refine ze 7 32 #[.int .i64 0, .int .i64 0, .int .i64 0, .slice none 0 0] ?_; intro gb693 hg w32 hbox hb; replace HO685 := zr HO685 hb; replace HO692 := zr HO692 hb; have BK693 := zA (hbox); have GW693 := zi HB hg; have GE693 := zi HB hg; replace HB := zh HB hb; have NB674_693 := zA (zL hg (zK BK674.out)); have NB693_674 := zA (zJ hg (zK BK674.out)); replace BK674 := zb BK674 hb; have NB675_693 := zA (zL hg (zK BK675.out)); have NB693_675 := zA (zJ hg (zK BK675.out)); replace BK675 := zb BK675 hb; clear hb hbox hg; have hnb33 := NB693_674.out; have hnc33 := NB674_693.out; have hnb34 := NB693_675.out; have hnc34 := NB675_693.out; obtain ⟨hcz35_0, hcz35_1, hcz35_2, hcz35_3, hfz35_0, hfz35_1, hfz35_2, hfz35_3⟩ := ze4 BK693.out; obtain ⟨Ao36, co36, eo36⟩ := Kd.R_slice HO692.out; subst eo36))
     generalize hW_ : ((((w32.setCell ⟨gb693, 0, none⟩ (.int .i64 t687)).setCell ⟨gb693, 1, none⟩ (.int .i64 t688)).setCell ⟨gb693, 2, none⟩ (.int .i64 t689)).setCell ⟨gb693, 3, none⟩ (.slice Ao36 t690.length co36)) = w37
     have n0_ : Aside0 (Kd.R Kd.string 9 w37 w.heap.size (fun k_ => some k_ ≠ (.slice Ao36 t690.length co36 : Value).ownBlock) (.slice Ao27 t683.length co27) t683) := ⟨by subst hW_; (with_reducible repeat (first | apply Kd.R_alloc | apply Kd.R_drewN | apply Kd.R_drew)); exact Kd.R_mono (zr4 HO685.out BK693.out) (fun _ hk => hk.2)⟩
     have n1_ : Aside0 (Kd.R Kd.string 9 w37 w.heap.size (fun k_ => some k_ ≠ (.slice Ao27 t683.length co27 : Value).ownBlock) (.slice Ao36 t690.length co36) t690) := ⟨by subst hW_; (with_reducible repeat (first | apply Kd.R_alloc | apply Kd.R_drewN | apply Kd.R_drew)); exact Kd.R_mono (zr4 HO692.out BK693.out) (fun _ hk => hk.2)⟩
     have n2_ : Aside0 (w37.heap[gb674]? = some (.cells #[.string a0_0, .string a0_1] 23 (0, 0))) := ⟨by subst hW_; (with_reducible repeat (first | refine blk_drewN ?_ _ | refine blk_drew ?_ | refine blk_alloc ?_ _)); refine blk_far ?_ NB674_693.out _; (with_reducible repeat (first | refine blk_drewN ?_ _ | refine blk_drew ?_ | refine blk_alloc ?_ _)); refine blk_far ?_ NB674_693.out _; (with_reducible repeat (first | refine blk_drewN ?_ _ | refine blk_drew ?_ | refine blk_alloc ?_ _)); refine blk_far ?_ NB674_693.out _; (with_reducible repeat (first | refine blk_drewN ?_ _ | refine blk_drew ?_ | refine blk_alloc ?_ _)); refine blk_far ?_ NB674_693.out _; (with_reducible repeat (first | refine blk_drewN ?_ _ | refine blk_drew ?_ | refine blk_alloc ?_ _)); exact BK674.out⟩
     have n3_ : Aside0 (w37.heap[gb675]? = some (.cells #[.int .i64 a1_0, .int .i64 a1_1, .int .i64 a1_2, .slice A1_3 l1_3.length c1_3] 26 (0, 0))) := ⟨by subst hW_; (with_reducible repeat (first | refine blk_drewN ?_ _ | refine blk_drew ?_ | refine blk_alloc ?_ _)); refine blk_far ?_ NB675_693.out _; (with_reducible repeat (first | refine blk_drewN ?_ _ | refine blk_drew ?_ | refine blk_alloc ?_ _)); refine blk_far ?_ NB675_693.out _; (with_reducible repeat (first | refine blk_drewN ?_ _ | refine blk_drew ?_ | refine blk_alloc ?_ _)); refine blk_far ?_ NB675_693.out _; (with_reducible repeat (first | refine blk_drewN ?_ _ | refine blk_drew ?_ | refine blk_alloc ?_ _)); refine blk_far ?_ NB675_693.out _; (with_reducible repeat (first | refine blk_drewN ?_ _ | refine blk_drew ?_ | refine blk_alloc ?_ _)); exact BK675.out⟩
     have n4_ := zA (zh1 hW_.symm (zk4 BK693.out))
     have n5_ := zA (zh2 hW_.symm (zW HB.out))
     clear HO685
     clear HO692
     clear BK674
     clear BK675
     clear BK693
     clear HB
     clear hW_
     have HO685 := n0_
     have HO692 := n1_
     have BK674 := n2_
     have BK675 := n3_
     have BK693 := n4_
     have HB := n5_
     clear n0_ n1_ n2_ n3_ n4_ n5_
     replace HO685 := zA (Kd.R_drew HO685.out)
     replace HO692 := zA (Kd.R_drew HO692.out)
     replace BK674 := zA (blk_drew BK674.out)
     replace BK675 := zA (blk_drew BK675.out)
     replace BK693 := zA (blk_drew BK693.out)
     replace HB := zA (below_drew1 HB.out)
     refine start_ (n := 5) (S := fun w' => w'.cell? ⟨gb674, 0, none⟩ = some (.string a0_0) ∧ w'.cell? ⟨gb674, 1, none⟩ = some (.string a0_1) ∧ w'.cell? ⟨gb693, 0, none⟩ = some (.int .i64 t687) ∧ w'.cell? ⟨gb693, 1, none⟩ = some (.int .i64 t688) ∧ w'.cell? ⟨gb693, 2, none⟩ = some (.int .i64 t689) ∧ w'.cell? ⟨gb693, 3, none⟩ = some (.slice Ao36 t690.length co36)) (ds := []) (Array.replicate 5 false) (by kernel_rfl) rfl rfl zO fun hHeld => ?_
     generalize w37.drew = w38 at HO685 HO692 BK674 BK675 BK693 HB hHeld ⊢
     refine zt 0 26 ?_
     refine zt 2 28 ?_
     refine zo 1 (some 27) fun K hK => ?_
     refine goes_ Tryz.func12 (by kernel_rfl) rfl #[.agg #[.string a0_0, .string a0_1]] (by rfl) rfl rfl zM ?_
     with_reducible refine (laws_toNeed.calls a0_0 a0_1 t694 t695 _ A21.out).mono ?_
     rintro e w39 ⟨rfl, hb⟩
     refine ⟨_, rfl, ?_⟩
     replace HO685 := zr HO685 hb
     replace HO692 := zr HO692 hb
     replace BK674 := zb BK674 hb
     replace BK675 := zb BK675 hb
     replace BK693 := zb BK693 hb
     replace HB := zh HB hb
     (try clear hb)
     refine hK.out _ _ zO fun hHeld => ?_
     clear hK K
     refine zn ?_
     refine zo 3 (some 29) fun K hK => ?_
     refine goes_ Tryz.func14 (by kernel_rfl) rfl #[.agg #[.string t694, .string t695], .agg #[.int .i64 t687, .int .i64 t688, .int .i64 t689, .slice Ao36 t690.length co36]] (by rfl) rfl rfl zM ?_
     with_reducible refine (impl_MayTake.calls kj11 t694 t695 t687 t688 t689 _ _ t690 t696 _ ?side1 ?side2 ?side3 A22.out).mono ?_
     (case side1 => repeat (first | exact (Kd.R_reads' HO692.out).2.2 | (with_reducible refine Kd.C_alloc ?_ _) | (with_reducible refine Kd.C_drewN ?_ _) | (with_reducible refine Kd.C_drew ?_)))
     (case side2 => exact (Kd.R_reads' HO692.out).2.1)
     (case side3 => exact GW.below HG.out (zW HB.out))
     rintro e w40 ⟨rfl, hb⟩
     refine ⟨_, rfl, ?_⟩
     replace HO685 := zr HO685 hb
     replace HO692 := zr HO692 hb
     replace BK674 := zb BK674 hb
     replace BK675 := zb BK675 hb
     replace BK693 := zb BK693 hb
     replace HB := zh HB hb
     (try clear hb)
     refine hK.out _ _ zO fun hHeld => ?_
     clear hK K
     refine zn ?_
     refine zp 4 8 ?_
     refine done_ (by kernel_rfl) ?_
     go_upto_if 32 with (fail)
     go_cut [] (fun wc => ∃ (kq : Nat), Aside0 (laws_FnExactMayTake.j2 kq a1_0 a1_1 a1_2 l1_3 t687 t688 t689 t690 = some r) ∧ Aside0 (kq ≤ kj11) ∧ Aside0 (Kd.R Kd.string 9 wc w.heap.size (fun _ => True) (.slice Ao36 t690.length co36) t690) ∧ Aside0 (wc.heap[gb674]? = some (.cells #[.string a0_0, .string a0_1] 23 (0, 0))) ∧ Aside0 (wc.heap[gb675]? = some (.cells #[.int .i64 a1_0, .int .i64 a1_1, .int .i64 a1_2, (.slice A1_3 l1_3.length c1_3)] 26 (0, 0))) ∧ Aside0 (wc.heap[gb693]? = some (.cells #[.int .i64 t687, .int .i64 t688, .int .i64 t689, (.slice Ao36 t690.length co36)] 32 (0, 0))) ∧ Aside0 (Below w.heap.size w wc))
     case first =>
      have H := HC23.out
      clear HC23
      replace H := zI1 H
      rcases H with ⟨c41, H⟩ | ⟨c41, H⟩
      ·exact absurd H (by simp)
      ·have c41b0 : (t696 != t686) = false := by simpa using c41
       (try (have c41b1 : decide (t696 = t686) = true := by simpa using c41))
       (try (have c41b2 : (t696 == t686) = true := by simpa using c41))
       clear c41
       (first | rw [c41b0] | (simp only [i64_w, i32_w]; rw [c41b0]) | rw [show (!(t696 == t686)) = false from c41b0] | skip)
       have H' := Aside0.mk H
       clear H
       go_wp2
       go_meet
       case rel => exact ⟨_, (by first | exact H' | (subst_vars; exact H')), ⟨by have := HJ3.out; have := HJ11.out; first | omega | exact Nat.le_refl _⟩, ⟨zR (Kd.R_mono HO692.out (fun _ hk => trivial))⟩, ⟨zK BK674.out⟩, ⟨zK BK675.out⟩, ⟨zK BK693.out⟩, ⟨zW HB.out⟩⟩
     case rest =>
      clear HC23
      try clear c1
      try clear c2
      try clear p2
      try clear c3
      try clear c4
      try clear c7
      try clear c9
      try clear c10
      try clear c10b0
      try clear c11
      try clear c12
      try clear c13
      try clear c14
      try clear c16
      try clear c16b0
      try clear c29
      try clear c33
      try clear c34
      try clear c41
      try clear c41b0
      try clear c41b1
      try clear c41b2
      try clear hcz14_0 hcz14_1 hcz14_2 hcz14_3 hfz14_0 hfz14_1 hfz14_2 hfz14_3
      try clear hcz30_0 hcz30_1 hcz30_2 hcz30_3 hfz30_0 hfz30_1 hfz30_2 hfz30_3
      try clear hcz35_0 hcz35_1 hcz35_2 hcz35_3 hfz35_0 hfz35_1 hfz35_2 hfz35_3
      try clear hcz8_0 hcz8_1 hfz8_0 hfz8_1
      try clear p2
      obtain ⟨kq, HA, HJ22, HO_694003, BK674, BK675, BK693, HB⟩ := hcut
      cases kq with
      | zero => exact absurd HA.out (by simp [laws_FnExactMayTake.j2])
      | succ kj22 =>
       have H := HA.out
       clear HA
       simp only [laws_FnExactMayTake.j2] at H
       replace H := zj H
       obtain ⟨⟨t697, t698, t699, t700⟩, A42, H⟩ := H
       try dsimp only at H
       replace H := zj H
       obtain ⟨t703, A43, H⟩ := H
       try dsimp only at H
       replace H := zB0 H
       rcases H with ⟨rfl, H⟩ | ⟨rfl, H⟩
       ·obtain rfl := Option.some.inj H
        try go_wp2
        replace HO_694003 := zA (Kd.R_drew HO_694003.out)
        replace BK674 := zA (blk_drew BK674.out)
        replace BK675 := zA (blk_drew BK675.out)
        replace BK693 := zA (blk_drew BK693.out)
        replace HB := zA (below_drew1 HB.out)
        refine start_ (n := 5) (S := fun w' => w'.cell? ⟨gb693, 0, none⟩ = some (.int .i64 t687) ∧ w'.cell? ⟨gb693, 1, none⟩ = some (.int .i64 t688) ∧ w'.cell? ⟨gb693, 2, none⟩ = some (.int .i64 t689) ∧ w'.cell? ⟨gb693, 3, none⟩ = some (.slice Ao36 t690.length co36) ∧ w'.cell? ⟨gb675, 0, none⟩ = some (.int .i64 a1_0) ∧ w'.cell? ⟨gb675, 1, none⟩ = some (.int .i64 a1_1) ∧ w'.cell? ⟨gb675, 2, none⟩ = some (.int .i64 a1_2) ∧ w'.cell? ⟨gb675, 3, none⟩ = some (.slice A1_3 l1_3.length c1_3)) (ds := []) (Array.replicate 5 false) (by kernel_rfl) rfl rfl zO fun hHeld => ?_
        generalize wc.drew = w45 at HO_694003 BK674 BK675 BK693 HB hHeld ⊢
        refine zt 0 33 ?_
        refine zt 1 34 ?_
        refine zo 2 (some 35) fun K hK => ?_
        refine goes_ Tryz.func13 (by kernel_rfl) rfl #[.agg #[.int .i64 a1_0, .int .i64 a1_1, .int .i64 a1_2, .slice A1_3 l1_3.length c1_3]] (by rfl) rfl rfl zM ?_
        with_reducible refine (laws_toVer.calls kj22 a1_0 a1_1 a1_2 _ _ l1_3 t697 t698 t699 t700 _ ?side1 ?side2 A42.out).mono ?_
        (case side1 => exact zC (Kd.C_below HR1_3.out HB.out))
        (case side2 => exact HC1_3.out)
        rintro e w46 ⟨v701, rfl, ho0, hb⟩
        refine ⟨_, rfl, ?_⟩
        have HO702 := zA (Kd.R_lower (Kd.R_new' ho0 (Kd.R_lt (zR HO_694003.out))) (below_size (zW HB.out)))
        replace HO_694003 := zA (Kd.R_elder' (zR HO_694003.out) (Kd.R_base ho0) hb)
        replace BK674 := zb BK674 hb
        replace BK675 := zb BK675 hb
        replace BK693 := zb BK693 hb
        replace HB := zh HB hb
        (try clear hb ho0)
        obtain ⟨Ao47, co47, eo47⟩ := Kd.R_slice HO702.out
        (first | subst eo47 | (injection eo47 with f1_ f2_ f3_; have f4_ := f1_.symm; have f5_ := f3_.symm; clear f1_ f2_ f3_; subst f4_; subst f5_))
        refine hK.out _ _ zO fun hHeld => ?_
        clear hK K
        refine zn ?_
        refine zo 3 (some 36) fun K hK => ?_
        refine goes_ Tryz.func15 (by kernel_rfl) rfl #[.agg #[.int .i64 t687, .int .i64 t688, .int .i64 t689, .slice Ao36 t690.length co36], .agg #[.int .i64 t697, .int .i64 t698, .int .i64 t699, .slice Ao47 t700.length co47]] (by rfl) rfl rfl zM ?_
        with_reducible refine (laws_eqVer.calls kj22 t687 t688 t689 _ _ t690 t697 t698 t699 _ _ t700 true _ ?side1 ?side2 ?side3 ?side4 A43.out).mono ?_
        (case side1 => repeat (first | exact (Kd.R_reads' HO_694003.out).2.2 | (with_reducible refine Kd.C_alloc ?_ _) | (with_reducible refine Kd.C_drewN ?_ _) | (with_reducible refine Kd.C_drew ?_)))
        (case side2 => exact (Kd.R_reads' HO_694003.out).2.1)
        (case side3 => repeat (first | exact (Kd.R_reads' HO702.out).2.2 | (with_reducible refine Kd.C_alloc ?_ _) | (with_reducible refine Kd.C_drewN ?_ _) | (with_reducible refine Kd.C_drew ?_)))
        (case side4 => exact (Kd.R_reads' HO702.out).2.1)
        rintro e w48 ⟨rfl, hb⟩
        refine ⟨_, rfl, ?_⟩
        replace HO_694003 := zr HO_694003 hb
        replace HO702 := zr HO702 hb
        replace BK674 := zb BK674 hb
        replace BK675 := zb BK675 hb
        replace BK693 := zb BK693 hb
        replace HB := zh HB hb
        (try clear hb)
        refine hK.out _ _ zO fun hHeld => ?_
        clear hK K
        refine zn ?_
        refine zp 4 37 ?_
        refine done_ (by kernel_rfl) ?_
        try go_wp2
        go_ret
        exact ⟨zE, zW HB.out⟩
       ·exact absurd H (by simp)
end Go.Proofs.YtpcdhoeoefoeoaaGreatDoor.PGA
