/- The walks of the functions that these laws reach, and what each comes to: printed by this session's program. -/
import Derived.Test.YtpcdhoeoefoeoaaGreatDoorZGAPGAx0
import Derived.Test.YtpcdhoeoefoeoaaGreatDoorZGAPGAx12
import Derived.Test.YtpcdhoeoefoeoaaGreatDoorZGAPGAx18
import Derived.Test.YtpcdhoeoefoeoaaGreatDoorZGAPGAx19
import Derived.Test.YtpcdhoeoefoeoaaGreatDoorZGASays
namespace Go.Proofs.YtpcdhoeoefoeoaaGreatDoor.PGA
open Go.RowKit YtpcdhoeoefoeoaaGreatDoorW.PrintWords YtpcdhoeoefoeoaaGreatDoorW.PrintLast YtpcdhoeoefoeoaaGreatDoorW.PrintMore
attribute [local go_sem high] Mine.str_gtr Mine.str_leq Mine.str_geq
attribute [local go_sem] max2_int min2_int max_two min_two max_three min_three max_four min_four   -- for this text's walks alone
set_option linter.unusedVariables false
set_option maxHeartbeats 8000000
set_option maxRecDepth 100000
set_option linter.unusedSimpArgs false
/-! ### impl_InRange: function 42 -/
mutual
def impl_InRange.j0 : Nat → List (List (S75)) → Int → Int → Int → List ByteArray → Option (Bool)
 | 0, _, _, _, _, _ => none
 | k + 1, x0, x659000, x659001, x659002, x659003 => impl_InRange.l0 k x0 (x0.length : Int) 0 x659000 x659001 x659002 x659003
def impl_InRange.l0 : Nat → List (List (S75)) → Int → Int → Int → Int → Int → List ByteArray → Option (Bool)
 | 0, _, _, _, _, _, _, _ => none
 | k + 1, x10, x11, x12, x659000, x659001, x659002, x659003 => if x12 < x11 then (if 0 ≤ x12 then (if x12 < (x10.length : Int) then ((impl_takes.f k (rd_L5 x10 x12) x659000 x659001 x659002 x659003).bind fun t661 => (if t661 = true then (some true) else (impl_InRange.l0 k x10 x11 (wrap64 (x12 + 1)) x659000 x659001 x659002 x659003))) else (none)) else (none)) else (some false)
end
def impl_InRange.f (k : Nat) (l0 : List (List (S75))) (a1_0 a1_1 a1_2 : Int) (l1_3 : List ByteArray) : Option (Bool) := (impl_VerOk.f k a1_0 a1_1 a1_2 l1_3).bind fun t659 => (if t659 = true then (impl_InRange.j0 k l0 a1_0 a1_1 a1_2 l1_3) else (some false))
theorem impl_InRange.calls (k : Nat) (A0 : Option Addr) (c0 : Nat) (l0 : List (List (S75))) (a1_0 a1_1 a1_2 : Int) (A1_3 : Option Addr) (c1_3 : Nat) (l1_3 : List ByteArray) (r : Bool) (w : World) (hr0 : Kd.C (Kd.slice 75 k75) w A0 l0.length l0) (hc0 : l0.length ≤ c0) (hr1_3 : Kd.C Kd.string w A1_3 l1_3.length l1_3) (hc1_3 : l1_3.length ≤ c1_3) (h : impl_InRange.f k l0 a1_0 a1_1 a1_2 l1_3 = some r) :
  Calls Tryz.prog 42 #[.slice A0 l0.length c0, .agg #[.int .i64 a1_0, .int .i64 a1_1, .int .i64 a1_2, .slice A1_3 l1_3.length c1_3]] w fun e w' => e = .returned (.bool r) ∧ Below w.heap.size w w' := by
 have hu32 := Tryz.underlying32
 have HR0 := Aside0.mk hr0
 have HC0 := Aside0.mk hc0
 clear hr0 hc0
 have HR1_3 := Aside0.mk hr1_3
 have HC1_3 := Aside0.mk hc1_3
 clear hr1_3 hc1_3
 have HB := zA (Below.refl w.heap.size w)
 unfold impl_InRange.f at h
 have H := h
 clear h
 replace H := zj H
 obtain ⟨t659, A3, H⟩ := H
 try dsimp only at H
 have HC4 := Aside0.mk H
 clear H
 go_enter Tryz.func42, Tryz.ntmps42
 go_upto_if 9 with (first | ((with_reducible refine zd 3 ?_); refine ze 3 32 #[.int .i64 a1_0, .int .i64 a1_1, .int .i64 a1_2, .slice A1_3 l1_3.length c1_3] ?_; intro gb658 hg w5 hbox hb; have BK658 := zA (hbox); have GW658 := zi HB hg; have GE658 := zi HB hg; replace HB := zA (below_step (zB) hb); clear hb hbox hg; obtain ⟨hcz6_0, hcz6_1, hcz6_2, hcz6_3, hfz6_0, hfz6_1, hfz6_2, hfz6_3⟩ := ze4 BK658.out) | ((with_reducible refine zq 71 ?_); refine zg (some 8) Tryz.func71 #[.agg #[.int .i64 a1_0, .int .i64 a1_1, .int .i64 a1_2, .slice A1_3 l1_3.length c1_3]] ?_; (with_reducible refine (impl_VerOk.calls k a1_0 a1_1 a1_2 _ _ l1_3 t659 _ ?side1 ?side2 A3.out).mono ?_); (case side1 => exact zC (Kd.C_below HR1_3.out HB.out)); (case side2 => exact HC1_3.out); rintro e w7 ⟨rfl, hb⟩; refine ⟨_, rfl, ?_⟩; replace BK658 := zb BK658 hb; replace HB := zh HB hb; (try clear hb)))
 (try simp only [Act.put, zT])
 go_cut [] (fun wc => ∃ (kq : Nat), Aside0 (impl_InRange.j0 kq l0 a1_0 a1_1 a1_2 l1_3 = some r) ∧ Aside0 (kq ≤ k) ∧ Aside0 (wc.heap[gb658]? = some (.cells #[.int .i64 a1_0, .int .i64 a1_1, .int .i64 a1_2, (.slice A1_3 l1_3.length c1_3)] 32 (0, 0))) ∧ Aside0 (Below w.heap.size w wc))
 case first =>
  have H := HC4.out
  clear HC4
  replace H := zB0 H
  rcases H with ⟨rfl, H⟩ | ⟨rfl, H⟩
  ·have H' := Aside0.mk H
   clear H
   go_wp2
   go_meet
   case rel => exact ⟨_, (by first | exact H' | (subst_vars; exact H')), ⟨by first | omega | exact Nat.le_refl _⟩, ⟨zK BK658.out⟩, ⟨zW HB.out⟩⟩
  ·obtain rfl := Option.some.inj H
   go_wp2
   go_ret
   exact ⟨zE, zW HB.out⟩
 case rest =>
  clear HC4
  try clear c1
  try clear p2
  try clear c4
  try clear c7
  try clear c8
  try clear hcz6_0 hcz6_1 hcz6_2 hcz6_3 hfz6_0 hfz6_1 hfz6_2 hfz6_3
  obtain ⟨kq, HA, HJ3, BK658, HB⟩ := hcut
  cases kq with
  | zero => exact absurd HA.out (by simp [impl_InRange.j0])
  | succ kj3 =>
   have H := HA.out
   clear HA
   simp only [impl_InRange.j0] at H
   have H' := Aside0.mk H
   clear H
   go_wp2
   go_loopg [12] kj3 (fun kq v12 w' => ∃ (x12_2 : Int), v12 = .int .i64 x12_2 ∧ Aside0 (impl_InRange.l0 kq l0 (l0.length : Int) x12_2 a1_0 a1_1 a1_2 l1_3 = some r) ∧ Aside0 (kq ≤ kj3) ∧ Aside0 (w'.heap[gb658]? = some (.cells #[.int .i64 a1_0, .int .i64 a1_1, .int .i64 a1_2, (.slice A1_3 l1_3.length c1_3)] 32 (0, 0))) ∧ Aside0 (Below w.heap.size w w'))
   case atStart => exact ⟨(0), zS, H', ⟨Nat.le_refl _⟩, ⟨zK BK658.out⟩, ⟨zW HB.out⟩⟩
   case round =>
    clear H'
    try clear c1
    try clear p2
    try clear c4
    try clear c7
    try clear c8
    try clear hcz6_0 hcz6_1 hcz6_2 hcz6_3 hfz6_0 hfz6_1 hfz6_2 hfz6_3
    try clear p2
    obtain ⟨x12_2, rfl, HA, HK2, BK658, HB⟩ := hrel
    cases gk with
    | zero => exact absurd HA.out (by simp [impl_InRange.l0])
    | succ k2 =>
     have H := HA.out
     clear HA
     simp only [impl_InRange.l0] at H
     replace H := zI0 H
     rcases H with ⟨c9b0, H⟩ | ⟨c9b0, H⟩
     ·replace H := zD0 H
      obtain ⟨c10b0, H⟩ := H
      replace H := zD0 H
      obtain ⟨c11b0, H⟩ := H
      replace H := zj H
      obtain ⟨t661, A12, H⟩ := H
      try dsimp only at H
      replace H := zB0 H
      rcases H with ⟨rfl, H⟩ | ⟨rfl, H⟩
      ·obtain rfl := Option.some.inj H
       have p660 : 0 ≤ (x12_2 : Int) := zD
       have q660 : x12_2 < (l0.length : Int) := zD
       obtain ⟨ad660, A660_0, c660_0, e660, hx660_0, hl660_0, hi660_0⟩ := at_L5 HR0.out x12_2 p660 q660
       cases e660
       replace hx660_0 := zx HB hx660_0
       have HR660_0 := Aside0.mk hi660_0
       have HC660_0 := Aside0.mk hl660_0
       clear hi660_0 hl660_0
       replace p660 := eq_true p660
       replace q660 := eq_true q660
       obtain ⟨hcz14_0, hcz14_1, hcz14_2, hcz14_3, hfz14_0, hfz14_1, hfz14_2, hfz14_3⟩ := ze4 BK658.out
       go_wp2_with (first | ((with_reducible refine zq 96 ?_); refine zg (some 18) Tryz.func96 #[.slice A660_0 (rd_L5 l0 x12_2).length c660_0, .agg #[.int .i64 a1_0, .int .i64 a1_1, .int .i64 a1_2, .slice A1_3 l1_3.length c1_3]] ?_; (with_reducible refine (impl_takes.calls k2 _ _ (rd_L5 l0 x12_2) a1_0 a1_1 a1_2 _ _ l1_3 true _ ?side1 ?side2 ?side3 ?side4 A12.out).mono ?_); (case side1 => exact zC (Kd.C_below HR660_0.out HB.out)); (case side2 => exact HC660_0.out); (case side3 => exact zC (Kd.C_below HR1_3.out HB.out)); (case side4 => exact HC1_3.out); rintro e w15 ⟨rfl, hb⟩; refine ⟨_, rfl, ?_⟩; replace BK658 := zb BK658 hb; replace HB := zh HB hb; (try clear hb)))
       go_ret
       exact ⟨zE, zW HB.out⟩
      ·have H' := Aside0.mk H
       clear H
       have p660 : 0 ≤ (x12_2 : Int) := zD
       have q660 : x12_2 < (l0.length : Int) := zD
       obtain ⟨ad660, A660_0, c660_0, e660, hx660_0, hl660_0, hi660_0⟩ := at_L5 HR0.out x12_2 p660 q660
       cases e660
       replace hx660_0 := zx HB hx660_0
       have HR660_0 := Aside0.mk hi660_0
       have HC660_0 := Aside0.mk hl660_0
       clear hi660_0 hl660_0
       replace p660 := eq_true p660
       replace q660 := eq_true q660
       obtain ⟨hcz16_0, hcz16_1, hcz16_2, hcz16_3, hfz16_0, hfz16_1, hfz16_2, hfz16_3⟩ := ze4 BK658.out
       go_wp2_with (first | ((with_reducible refine zq 96 ?_); refine zg (some 18) Tryz.func96 #[.slice A660_0 (rd_L5 l0 x12_2).length c660_0, .agg #[.int .i64 a1_0, .int .i64 a1_1, .int .i64 a1_2, .slice A1_3 l1_3.length c1_3]] ?_; (with_reducible refine (impl_takes.calls k2 _ _ (rd_L5 l0 x12_2) a1_0 a1_1 a1_2 _ _ l1_3 false _ ?side1 ?side2 ?side3 ?side4 A12.out).mono ?_); (case side1 => exact zC (Kd.C_below HR660_0.out HB.out)); (case side2 => exact HC660_0.out); (case side3 => exact zC (Kd.C_below HR1_3.out HB.out)); (case side4 => exact HC1_3.out); rintro e w17 ⟨rfl, hb⟩; refine ⟨_, rfl, ?_⟩; replace BK658 := zb BK658 hb; replace HB := zh HB hb; (try clear hb)))
       go_roundg k2
       case measure => have := HJ3.out; have := HK2.out; omega
       case rel => exact ⟨(wrap64 (x12_2 + 1)), zS, H', ⟨by have := HJ3.out; have := HK2.out; omega⟩, ⟨zK BK658.out⟩, ⟨zW HB.out⟩⟩
     ·obtain rfl := Option.some.inj H
      go_wp2
      go_ret
      exact ⟨zE, zW HB.out⟩
/-! ### impl_MayTake: function 14 -/
def impl_MayTake.f (k : Nat) (a0_0 a0_1 : ByteArray) (a1_0 a1_1 a1_2 : Int) (l1_3 : List ByteArray) : Option (Bool) := (impl_ParseRange.f k a0_1).bind fun bt664 => (if bt664.2 = true then ((impl_InRange.f k bt664.1 a1_0 a1_1 a1_2 l1_3).bind fun t668 => (some t668)) else (some false))
theorem impl_MayTake.calls (k : Nat) (a0_0 a0_1 : ByteArray) (a1_0 a1_1 a1_2 : Int) (A1_3 : Option Addr) (c1_3 : Nat) (l1_3 : List ByteArray) (r : Bool) (w : World) (hr1_3 : Kd.C Kd.string w A1_3 l1_3.length l1_3) (hc1_3 : l1_3.length ≤ c1_3) (hG : GW w) (h : impl_MayTake.f k a0_0 a0_1 a1_0 a1_1 a1_2 l1_3 = some r) :
  Calls Tryz.prog 14 #[.agg #[.string a0_0, .string a0_1], .agg #[.int .i64 a1_0, .int .i64 a1_1, .int .i64 a1_2, .slice A1_3 l1_3.length c1_3]] w fun e w' => e = .returned (.bool r) ∧ Below w.heap.size w w' := by
 have hu30 := Tryz.underlying30
 have hu32 := Tryz.underlying32
 have HR1_3 := Aside0.mk hr1_3
 have HC1_3 := Aside0.mk hc1_3
 clear hr1_3 hc1_3
 have HG := Aside0.mk hG
 clear hG
 have HB := zA (Below.refl w.heap.size w)
 unfold impl_MayTake.f at h
 have H := h
 clear h
 replace H := zj H
 obtain ⟨⟨t664, t667⟩, A3, H⟩ := H
 try dsimp only at H
 replace H := zB0 H
 rcases H with ⟨rfl, H⟩ | ⟨rfl, H⟩
 ·replace H := zj H
  obtain ⟨t668, A5, H⟩ := H
  try dsimp only at H
  obtain rfl := Option.some.inj H
  go_enter Tryz.func14, Tryz.ntmps14
  go_wp2_with (first | ((with_reducible refine zd 2 ?_); refine ze 2 30 #[.string a0_0, .string a0_1] ?_; intro gb662 hg w6 hbox hb; have BK662 := zA (hbox); have GW662 := zi HB hg; have GE662 := zi HB hg; replace HB := zA (below_step (zB) hb); clear hb hbox hg) | ((with_reducible refine zd 3 ?_); refine ze 3 32 #[.int .i64 a1_0, .int .i64 a1_1, .int .i64 a1_2, .slice A1_3 l1_3.length c1_3] ?_; intro gb663 hg w7 hbox hb; have BK663 := zA (hbox); have GW663 := zi HB hg; have GE663 := zi HB hg; replace HB := zh HB hb; have NB662_663 := zA (zL hg (zK BK662.out)); have NB663_662 := zA (zJ hg (zK BK662.out)); replace BK662 := zb BK662 hb; clear hb hbox hg; have hnb8 := NB662_663.out; have hnc8 := NB663_662.out; obtain ⟨hcz9_0, hcz9_1, hfz9_0, hfz9_1⟩ := ze2 BK662.out) | ((with_reducible refine zq 32 ?_); refine zg (some 10) Tryz.func32 #[.string a0_1] ?_; (with_reducible refine (impl_ParseRange.calls k a0_1 t664 true _ ?side1 A3.out).mono ?_); (case side1 => exact GW.below HG.out (zW HB.out)); rintro e w10 ⟨v665, rfl, ho0, hb⟩; refine ⟨_, rfl, ?_⟩; have HO666 := zA (Kd.N_lower (Kd.N_mono (ok' := fun k_ => k_ ≠ gb662 ∧ k_ ≠ gb663) ho0 (fun k_ hk_ => ⟨(Kd.freshB (g := gb662) (o := .cells #[.string a0_0, .string a0_1] 30 (0, 0)) (zK BK662.out) k_ hk_), (Kd.freshB (g := gb663) (o := .cells #[.int .i64 a1_0, .int .i64 a1_1, .int .i64 a1_2, .slice A1_3 l1_3.length c1_3] 32 (0, 0)) (zK BK663.out) k_ hk_)⟩)) (below_size (zW HB.out))); replace BK662 := zb BK662 hb; replace BK663 := zb BK663 hb; replace HB := zh HB hb; (try clear hb ho0); obtain ⟨hcz11_0, hcz11_1, hcz11_2, hcz11_3, hfz11_0, hfz11_1, hfz11_2, hfz11_3⟩ := ze4 BK663.out; obtain ⟨Ao12, co12, eo12⟩ := Kd.N_slice HO666.out; subst eo12) | (go_at_call 42; (with_reducible refine (impl_InRange.calls k _ _ t664 a1_0 a1_1 a1_2 _ _ l1_3 t668 _ ?side1 ?side2 ?side3 ?side4 A5.out).mono ?_); (case side1 => repeat (first | exact (Kd.N_reads' HO666.out).2.2 | (with_reducible refine Kd.C_alloc ?_ _) | (with_reducible refine Kd.C_drewN ?_ _) | (with_reducible refine Kd.C_drew ?_))); (case side2 => exact (Kd.N_reads' HO666.out).2.1); (case side3 => exact zC (Kd.C_below HR1_3.out HB.out)); (case side4 => exact HC1_3.out); rintro e w13 ⟨rfl, hb⟩; replace HO666 := zA (Kd.N_below (zN HO666.out) hb); replace BK662 := zb BK662 hb; replace BK663 := zb BK663 hb; replace HB := zh HB hb; (try clear hb)))
  go_ret
  exact ⟨zE, zW HB.out⟩
 ·obtain rfl := Option.some.inj H
  go_enter Tryz.func14, Tryz.ntmps14
  go_wp2_with (first | ((with_reducible refine zd 2 ?_); refine ze 2 30 #[.string a0_0, .string a0_1] ?_; intro gb662 hg w14 hbox hb; have BK662 := zA (hbox); have GW662 := zi HB hg; have GE662 := zi HB hg; replace HB := zA (below_step (zB) hb); clear hb hbox hg) | ((with_reducible refine zd 3 ?_); refine ze 3 32 #[.int .i64 a1_0, .int .i64 a1_1, .int .i64 a1_2, .slice A1_3 l1_3.length c1_3] ?_; intro gb663 hg w15 hbox hb; have BK663 := zA (hbox); have GW663 := zi HB hg; have GE663 := zi HB hg; replace HB := zh HB hb; have NB662_663 := zA (zL hg (zK BK662.out)); have NB663_662 := zA (zJ hg (zK BK662.out)); replace BK662 := zb BK662 hb; clear hb hbox hg; have hnb16 := NB662_663.out; have hnc16 := NB663_662.out; obtain ⟨hcz17_0, hcz17_1, hfz17_0, hfz17_1⟩ := ze2 BK662.out) | ((with_reducible refine zq 32 ?_); refine zg (some 10) Tryz.func32 #[.string a0_1] ?_; (with_reducible refine (impl_ParseRange.calls k a0_1 t664 false _ ?side1 A3.out).mono ?_); (case side1 => exact GW.below HG.out (zW HB.out)); rintro e w18 ⟨v665, rfl, ho0, hb⟩; refine ⟨_, rfl, ?_⟩; have HO666 := zA (Kd.N_lower (Kd.N_mono (ok' := fun k_ => k_ ≠ gb662 ∧ k_ ≠ gb663) ho0 (fun k_ hk_ => ⟨(Kd.freshB (g := gb662) (o := .cells #[.string a0_0, .string a0_1] 30 (0, 0)) (zK BK662.out) k_ hk_), (Kd.freshB (g := gb663) (o := .cells #[.int .i64 a1_0, .int .i64 a1_1, .int .i64 a1_2, .slice A1_3 l1_3.length c1_3] 32 (0, 0)) (zK BK663.out) k_ hk_)⟩)) (below_size (zW HB.out))); replace BK662 := zb BK662 hb; replace BK663 := zb BK663 hb; replace HB := zh HB hb; (try clear hb ho0)))
  go_ret
  exact ⟨zE, zW HB.out⟩
/-! ### laws_eqStringS: function 50 -/
mutual
def laws_eqStringS.j0 : Nat → List ByteArray → List ByteArray → Option (Bool)
 | 0, _, _ => none
 | k + 1, x0, x1 => laws_eqStringS.l0 k x0 x1 0
def laws_eqStringS.l0 : Nat → List ByteArray → List ByteArray → Int → Option (Bool)
 | 0, _, _, _ => none
 | k + 1, x0, x1, x5 => if x5 < (x0.length : Int) then (if 0 ≤ x5 then (if x5 < (x1.length : Int) then (if (rdOf ByteArray.empty x0 x5).toList = (rdOf ByteArray.empty x1 x5).toList then (laws_eqStringS.l0 k x0 x1 (wrap64 (x5 + 1))) else (some false)) else (none)) else (none)) else (some true)
end
def laws_eqStringS.f (k : Nat) (l0 l1 : List ByteArray) : Option (Bool) := if (l0.length : Int) = (l1.length : Int) then (laws_eqStringS.j0 k l0 l1) else (some false)
theorem laws_eqStringS.calls (k : Nat) (A0 : Option Addr) (c0 : Nat) (l0 : List ByteArray) (A1 : Option Addr) (c1 : Nat) (l1 : List ByteArray) (r : Bool) (w : World) (hr0 : Kd.C Kd.string w A0 l0.length l0) (hc0 : l0.length ≤ c0) (hr1 : Kd.C Kd.string w A1 l1.length l1) (hc1 : l1.length ≤ c1) (h : laws_eqStringS.f k l0 l1 = some r) :
  Calls Tryz.prog 50 #[.slice A0 l0.length c0, .slice A1 l1.length c1] w fun e w' => e = .returned (.bool r) ∧ Drawn0 w w' := by
 have HR0 := Aside0.mk hr0
 have HC0 := Aside0.mk hc0
 clear hr0 hc0
 have HR1 := Aside0.mk hr1
 have HC1 := Aside0.mk hc1
 clear hr1 hc1
 unfold laws_eqStringS.f at h
 have H := h
 clear h
 have HC3 := Aside0.mk H
 clear H
 go_enter Tryz.func50, Tryz.ntmps50
 go_upto_if 10 with (fail)
 repeat (go_quiet (fail); go_upto_if 10 with (fail))
 go_cut [] (fun wc => ∃ (kq : Nat), Aside0 (laws_eqStringS.j0 kq l0 l1 = some r) ∧ Aside0 (kq ≤ k) ∧ Drawn0 w wc)
 case first =>
  have H := HC3.out
  clear HC3
  replace H := zI1 H
  rcases H with ⟨c4, H⟩ | ⟨c4, H⟩
  ·have c4b0 := beq_iff_eq.mpr c4
   have c4b1 := bne_eq_false_iff_eq.mpr c4
   have c4b2 : (l0.length == l1.length) = true := by first | simpa using c4 | (simp at c4 ⊢; omega)
   clear c4
   (first | rw [c4b0] | (simp only [i64_w, i32_w]; rw [c4b0]) | skip)
   have H' := Aside0.mk H
   clear H
   go_wp2
   repeat (go_quiet (fail); try go_wp2)
   go_meet
   case rel => exact ⟨_, (by first | exact H' | (subst_vars; exact H')), ⟨by first | omega | exact Nat.le_refl _⟩, by repeat (first | exact Drawn0.refl _ | apply Drawn0.step)⟩
  ·have c4b0 := beq_eq_false_iff_ne.mpr c4
   have c4b1 := bne_iff_ne.mpr c4
   have c4b2 : (l0.length == l1.length) = false := by first | simpa using c4 | (simp at c4 ⊢; omega)
   (first | rw [c4b0] | (simp only [i64_w, i32_w]; rw [c4b0]) | skip)
   obtain rfl := Option.some.inj H
   go_wp2
   repeat (go_quiet (fail); try go_wp2)
   go_ret
   exact ⟨by first | rfl | (simp; done) | (simp [*]; done) | (simp; rw [Bool.eq_iff_iff]; simp; done), by repeat (first | exact Drawn0.refl _ | apply Drawn0.step)⟩
 case rest =>
  clear HC3
  try clear c1
  try clear p2
  try clear c4
  try clear c4b0
  try clear c4b1
  try clear c4b2
  obtain ⟨kq, HA, HJ2, ⟨mc2, rfl⟩⟩ := hcut
  cases kq with
  | zero => exact absurd HA.out (by simp [laws_eqStringS.j0])
  | succ kj2 =>
   have H := HA.out
   clear HA
   simp only [laws_eqStringS.j0] at H
   have H' := Aside0.mk H
   clear H
   go_wp2
   repeat (go_quiet (fail); try go_wp2)
   go_loopg [5] kj2 (fun kq v5 w' => ∃ (x5_2 : Int), v5 = .int .i64 x5_2 ∧ Aside0 (laws_eqStringS.l0 kq l0 l1 x5_2 = some r) ∧ Aside0 (kq ≤ kj2) ∧ Drawn0 w w')
   case atStart => exact ⟨(0), zS, H', ⟨Nat.le_refl _⟩, by repeat (first | exact Drawn0.refl _ | apply Drawn0.step)⟩
   case round =>
    clear H'
    try clear c1
    try clear c2
    try clear p2
    try clear c4
    try clear c4b0
    try clear c4b1
    try clear c4b2
    try clear p2
    obtain ⟨x5_2, rfl, HA, HK2, ⟨m2, rfl⟩⟩ := hrel
    cases gk with
    | zero => exact absurd HA.out (by simp [laws_eqStringS.l0])
    | succ k2 =>
     have H := HA.out
     clear HA
     simp only [laws_eqStringS.l0] at H
     replace H := zI0 H
     rcases H with ⟨c5b0, H⟩ | ⟨c5b0, H⟩
     ·replace H := zD0 H
      obtain ⟨c6b0, H⟩ := H
      replace H := zD0 H
      obtain ⟨c7b0, H⟩ := H
      replace H := zI1 H
      rcases H with ⟨c8, H⟩ | ⟨c8, H⟩
      ·have c8b0 := beq_iff_eq.mpr c8
       have c8b1 := bne_eq_false_iff_eq.mpr c8
       clear c8
       have H' := Aside0.mk H
       clear H
       have p669 : 0 ≤ (x5_2 : Int) := zD
       have q669 : x5_2 < (l0.length : Int) := zD
       obtain ⟨ad669, e669, hx669_0⟩ := Kd.at_string HR0.out x5_2 p669 q669
       cases e669
       replace p669 := eq_true p669
       replace q669 := eq_true q669
       have p670 : 0 ≤ (x5_2 : Int) := zD
       have q670 : x5_2 < (l1.length : Int) := zD
       obtain ⟨ad670, e670, hx670_0⟩ := Kd.at_string HR1.out x5_2 p670 q670
       cases e670
       replace p670 := eq_true p670
       replace q670 := eq_true q670
       go_wp2
       repeat (go_quiet (fail); try go_wp2)
       go_roundg k2
       case measure => have := HJ2.out; have := HK2.out; omega
       case rel => exact ⟨(wrap64 (x5_2 + 1)), zS, H', ⟨by have := HJ2.out; have := HK2.out; omega⟩, by repeat (first | exact Drawn0.refl _ | apply Drawn0.step)⟩
      ·have c8b0 := beq_eq_false_iff_ne.mpr c8
       have c8b1 := bne_iff_ne.mpr c8
       obtain rfl := Option.some.inj H
       have p669 : 0 ≤ (x5_2 : Int) := zD
       have q669 : x5_2 < (l0.length : Int) := zD
       obtain ⟨ad669, e669, hx669_0⟩ := Kd.at_string HR0.out x5_2 p669 q669
       cases e669
       replace p669 := eq_true p669
       replace q669 := eq_true q669
       have p670 : 0 ≤ (x5_2 : Int) := zD
       have q670 : x5_2 < (l1.length : Int) := zD
       obtain ⟨ad670, e670, hx670_0⟩ := Kd.at_string HR1.out x5_2 p670 q670
       cases e670
       replace p670 := eq_true p670
       replace q670 := eq_true q670
       go_wp2
       repeat (go_quiet (fail); try go_wp2)
       go_ret
       exact ⟨by first | rfl | (simp; done) | (simp [*]; done) | (simp; rw [Bool.eq_iff_iff]; simp; done), by repeat (first | exact Drawn0.refl _ | apply Drawn0.step)⟩
     ·obtain rfl := Option.some.inj H
      go_wp2
      repeat (go_quiet (fail); try go_wp2)
      go_ret
      exact ⟨by first | rfl | (simp; done) | (simp [*]; done) | (simp; rw [Bool.eq_iff_iff]; simp; done), by repeat (first | exact Drawn0.refl _ | apply Drawn0.step)⟩
/-! ### laws_eqVer: function 15 -/
mutual
def laws_eqVer.j0 : Nat → Int → Int → Int → List ByteArray → Int → Int → Int → List ByteArray → Option (Bool)
 | 0, _, _, _, _, _, _, _, _ => none
 | k + 1, x672000, x672001, x672002, x672003, x673000, x673001, x673002, x673003 => if x672001 = x673001 then (laws_eqVer.j1 k x672000 x672001 x672002 x672003 x673000 x673001 x673002 x673003) else (some false)
def laws_eqVer.j1 : Nat → Int → Int → Int → List ByteArray → Int → Int → Int → List ByteArray → Option (Bool)
 | 0, _, _, _, _, _, _, _, _ => none
 | k + 1, x672000, x672001, x672002, x672003, x673000, x673001, x673002, x673003 => if x672002 = x673002 then ((laws_eqStringS.f k x672003 x673003).bind fun t673 => (if t673 = true then (some true) else (some false))) else (some false)
end
def laws_eqVer.f (k : Nat) (a0_0 a0_1 a0_2 : Int) (l0_3 : List ByteArray) (a1_0 a1_1 a1_2 : Int) (l1_3 : List ByteArray) : Option (Bool) := if a0_0 = a1_0 then (laws_eqVer.j0 k a0_0 a0_1 a0_2 l0_3 a1_0 a1_1 a1_2 l1_3) else (some false)
theorem laws_eqVer.calls (k : Nat) (a0_0 a0_1 a0_2 : Int) (A0_3 : Option Addr) (c0_3 : Nat) (l0_3 : List ByteArray) (a1_0 a1_1 a1_2 : Int) (A1_3 : Option Addr) (c1_3 : Nat) (l1_3 : List ByteArray) (r : Bool) (w : World) (hr0_3 : Kd.C Kd.string w A0_3 l0_3.length l0_3) (hc0_3 : l0_3.length ≤ c0_3) (hr1_3 : Kd.C Kd.string w A1_3 l1_3.length l1_3) (hc1_3 : l1_3.length ≤ c1_3) (h : laws_eqVer.f k a0_0 a0_1 a0_2 l0_3 a1_0 a1_1 a1_2 l1_3 = some r) :
  Calls Tryz.prog 15 #[.agg #[.int .i64 a0_0, .int .i64 a0_1, .int .i64 a0_2, .slice A0_3 l0_3.length c0_3], .agg #[.int .i64 a1_0, .int .i64 a1_1, .int .i64 a1_2, .slice A1_3 l1_3.length c1_3]] w fun e w' => e = .returned (.bool r) ∧ Below w.heap.size w w' := by
 have hu32 := Tryz.underlying32
 have HR0_3 := Aside0.mk hr0_3
 have HC0_3 := Aside0.mk hc0_3
 clear hr0_3 hc0_3
 have HR1_3 := Aside0.mk hr1_3
 have HC1_3 := Aside0.mk hc1_3
 clear hr1_3 hc1_3
 have HB := zA (Below.refl w.heap.size w)
 unfold laws_eqVer.f at h
 have H := h
 clear h
 have HC3 := Aside0.mk H
 clear H
 go_enter Tryz.func15, Tryz.ntmps15
 go_upto_if 9 with (first | ((with_reducible refine zd 2 ?_); refine ze 2 32 #[.int .i64 a0_0, .int .i64 a0_1, .int .i64 a0_2, .slice A0_3 l0_3.length c0_3] ?_; intro gb671 hg w4 hbox hb; have BK671 := zA (hbox); have GW671 := zi HB hg; have GE671 := zi HB hg; replace HB := zA (below_step (zB) hb); clear hb hbox hg) | ((with_reducible refine zd 3 ?_); refine ze 3 32 #[.int .i64 a1_0, .int .i64 a1_1, .int .i64 a1_2, .slice A1_3 l1_3.length c1_3] ?_; intro gb672 hg w5 hbox hb; have BK672 := zA (hbox); have GW672 := zi HB hg; have GE672 := zi HB hg; replace HB := zh HB hb; have NB671_672 := zA (zL hg (zK BK671.out)); have NB672_671 := zA (zJ hg (zK BK671.out)); replace BK671 := zb BK671 hb; clear hb hbox hg; have hnb6 := NB671_672.out; have hnc6 := NB672_671.out; obtain ⟨hcz7_0, hcz7_1, hcz7_2, hcz7_3, hfz7_0, hfz7_1, hfz7_2, hfz7_3⟩ := ze4 BK671.out; obtain ⟨hcz8_0, hcz8_1, hcz8_2, hcz8_3, hfz8_0, hfz8_1, hfz8_2, hfz8_3⟩ := ze4 BK672.out))
 (try simp only [Act.put, zT])
 go_cut [] (fun wc => ∃ (kq : Nat), Aside0 (laws_eqVer.j0 kq a0_0 a0_1 a0_2 l0_3 a1_0 a1_1 a1_2 l1_3 = some r) ∧ Aside0 (kq ≤ k) ∧ Aside0 (wc.heap[gb671]? = some (.cells #[.int .i64 a0_0, .int .i64 a0_1, .int .i64 a0_2, (.slice A0_3 l0_3.length c0_3)] 32 (0, 0))) ∧ Aside0 (wc.heap[gb672]? = some (.cells #[.int .i64 a1_0, .int .i64 a1_1, .int .i64 a1_2, (.slice A1_3 l1_3.length c1_3)] 32 (0, 0))) ∧ Aside0 (Below w.heap.size w wc))
 case first =>
  have H := HC3.out
  clear HC3
  replace H := zI1 H
  rcases H with ⟨c9, H⟩ | ⟨c9, H⟩
  ·have c9b0 := beq_iff_eq.mpr c9
   have c9b1 := bne_eq_false_iff_eq.mpr c9
   clear c9
   (first | rw [c9b0] | (simp only [i64_w, i32_w]; rw [c9b0]) | skip)
   have H' := Aside0.mk H
   clear H
   go_wp2
   go_meet
   case rel => exact ⟨_, (by first | exact H' | (subst_vars; exact H')), ⟨by first | omega | exact Nat.le_refl _⟩, ⟨zK BK671.out⟩, ⟨zK BK672.out⟩, ⟨zW HB.out⟩⟩
  ·have c9b0 := beq_eq_false_iff_ne.mpr c9
   have c9b1 := bne_iff_ne.mpr c9
   (first | rw [c9b0] | (simp only [i64_w, i32_w]; rw [c9b0]) | skip)
   obtain rfl := Option.some.inj H
   go_wp2
   go_ret
   exact ⟨zE, zW HB.out⟩
 case rest =>
  clear HC3
  try clear c1
  try clear p2
  try clear c6
  try clear c9
  try clear c9b0
  try clear c9b1
  try clear hcz7_0 hcz7_1 hcz7_2 hcz7_3 hfz7_0 hfz7_1 hfz7_2 hfz7_3
  try clear hcz8_0 hcz8_1 hcz8_2 hcz8_3 hfz8_0 hfz8_1 hfz8_2 hfz8_3
  obtain ⟨kq, HA, HJ2, BK671, BK672, HB⟩ := hcut
  cases kq with
  | zero => exact absurd HA.out (by simp [laws_eqVer.j0])
  | succ kj2 =>
   have H := HA.out
   clear HA
   simp only [laws_eqVer.j0] at H
   have HC10 := Aside0.mk H
   clear H
   have hnb11 := NB671_672.out
   have hnc11 := NB672_671.out
   obtain ⟨hcz12_0, hcz12_1, hcz12_2, hcz12_3, hfz12_0, hfz12_1, hfz12_2, hfz12_3⟩ := ze4 BK671.out
   obtain ⟨hcz13_0, hcz13_1, hcz13_2, hcz13_3, hfz13_0, hfz13_1, hfz13_2, hfz13_3⟩ := ze4 BK672.out
   go_upto_if 14 with (fail)
   go_cut [] (fun wc => ∃ (kq : Nat), Aside0 (laws_eqVer.j1 kq a0_0 a0_1 a0_2 l0_3 a1_0 a1_1 a1_2 l1_3 = some r) ∧ Aside0 (kq ≤ kj2) ∧ Aside0 (wc.heap[gb671]? = some (.cells #[.int .i64 a0_0, .int .i64 a0_1, .int .i64 a0_2, (.slice A0_3 l0_3.length c0_3)] 32 (0, 0))) ∧ Aside0 (wc.heap[gb672]? = some (.cells #[.int .i64 a1_0, .int .i64 a1_1, .int .i64 a1_2, (.slice A1_3 l1_3.length c1_3)] 32 (0, 0))) ∧ Aside0 (Below w.heap.size w wc))
   case first =>
    have H := HC10.out
    clear HC10
    replace H := zI1 H
    rcases H with ⟨c14, H⟩ | ⟨c14, H⟩
    ·have c14b0 := beq_iff_eq.mpr c14
     have c14b1 := bne_eq_false_iff_eq.mpr c14
     clear c14
     (first | rw [c14b0] | (simp only [i64_w, i32_w]; rw [c14b0]) | skip)
     have H' := Aside0.mk H
     clear H
     go_wp2
     go_meet
     case rel => exact ⟨_, (by first | exact H' | (subst_vars; exact H')), ⟨by have := HJ2.out; first | omega | exact Nat.le_refl _⟩, ⟨zK BK671.out⟩, ⟨zK BK672.out⟩, ⟨zW HB.out⟩⟩
    ·have c14b0 := beq_eq_false_iff_ne.mpr c14
     have c14b1 := bne_iff_ne.mpr c14
     (first | rw [c14b0] | (simp only [i64_w, i32_w]; rw [c14b0]) | skip)
     obtain rfl := Option.some.inj H
     go_wp2
     go_ret
     exact ⟨zE, zW HB.out⟩
   case rest =>
    clear HC10
    try clear c1
    try clear p2
    try clear c6
    try clear c9
    try clear c9b0
    try clear c9b1
    try clear c11
    try clear c14
    try clear c14b0
    try clear c14b1
    try clear hcz12_0 hcz12_1 hcz12_2 hcz12_3 hfz12_0 hfz12_1 hfz12_2 hfz12_3
    try clear hcz13_0 hcz13_1 hcz13_2 hcz13_3 hfz13_0 hfz13_1 hfz13_2 hfz13_3
    try clear hcz7_0 hcz7_1 hcz7_2 hcz7_3 hfz7_0 hfz7_1 hfz7_2 hfz7_3
    try clear hcz8_0 hcz8_1 hcz8_2 hcz8_3 hfz8_0 hfz8_1 hfz8_2 hfz8_3
    try clear p2
    obtain ⟨kq, HA, HJ9, BK671, BK672, HB⟩ := hcut
    cases kq with
    | zero => exact absurd HA.out (by simp [laws_eqVer.j1])
    | succ kj9 =>
     have H := HA.out
     clear HA
     simp only [laws_eqVer.j1] at H
     replace H := zI1 H
     rcases H with ⟨c15, H⟩ | ⟨c15, H⟩
     ·have c15b0 := beq_iff_eq.mpr c15
      have c15b1 := bne_eq_false_iff_eq.mpr c15
      clear c15
      replace H := zj H
      obtain ⟨t673, A16, H⟩ := H
      try dsimp only at H
      replace H := zB0 H
      rcases H with ⟨rfl, H⟩ | ⟨rfl, H⟩
      ·obtain rfl := Option.some.inj H
       have hnb18 := NB671_672.out
       have hnc18 := NB672_671.out
       obtain ⟨hcz19_0, hcz19_1, hcz19_2, hcz19_3, hfz19_0, hfz19_1, hfz19_2, hfz19_3⟩ := ze4 BK671.out
       obtain ⟨hcz20_0, hcz20_1, hcz20_2, hcz20_3, hfz20_0, hfz20_1, hfz20_2, hfz20_3⟩ := ze4 BK672.out
       go_wp2_with (first | ((with_reducible refine zq 50 ?_); refine zg (some 24) Tryz.func50 #[.slice A0_3 l0_3.length c0_3, .slice A1_3 l1_3.length c1_3] ?_; (with_reducible refine (laws_eqStringS.calls kj9 _ _ l0_3 _ _ l1_3 true _ ?side1 ?side2 ?side3 ?side4 A16.out).mono ?_); (case side1 => exact zC (Kd.C_below HR0_3.out HB.out)); (case side2 => exact HC0_3.out); (case side3 => exact zC (Kd.C_below HR1_3.out HB.out)); (case side4 => exact HC1_3.out); rintro e w' ⟨rfl, ⟨nd, rfl⟩⟩; refine ⟨_, rfl, ?_⟩))
       go_ret
       exact ⟨zE, zW HB.out⟩
      ·obtain rfl := Option.some.inj H
       have hnb21 := NB671_672.out
       have hnc21 := NB672_671.out
       obtain ⟨hcz22_0, hcz22_1, hcz22_2, hcz22_3, hfz22_0, hfz22_1, hfz22_2, hfz22_3⟩ := ze4 BK671.out
       obtain ⟨hcz23_0, hcz23_1, hcz23_2, hcz23_3, hfz23_0, hfz23_1, hfz23_2, hfz23_3⟩ := ze4 BK672.out
       go_wp2_with (first | ((with_reducible refine zq 50 ?_); refine zg (some 24) Tryz.func50 #[.slice A0_3 l0_3.length c0_3, .slice A1_3 l1_3.length c1_3] ?_; (with_reducible refine (laws_eqStringS.calls kj9 _ _ l0_3 _ _ l1_3 false _ ?side1 ?side2 ?side3 ?side4 A16.out).mono ?_); (case side1 => exact zC (Kd.C_below HR0_3.out HB.out)); (case side2 => exact HC0_3.out); (case side3 => exact zC (Kd.C_below HR1_3.out HB.out)); (case side4 => exact HC1_3.out); rintro e w' ⟨rfl, ⟨nd, rfl⟩⟩; refine ⟨_, rfl, ?_⟩))
       go_ret
       exact ⟨zE, zW HB.out⟩
     ·have c15b0 := beq_eq_false_iff_ne.mpr c15
      have c15b1 := bne_iff_ne.mpr c15
      obtain rfl := Option.some.inj H
      have hnb24 := NB671_672.out
      have hnc24 := NB672_671.out
      obtain ⟨hcz25_0, hcz25_1, hcz25_2, hcz25_3, hfz25_0, hfz25_1, hfz25_2, hfz25_3⟩ := ze4 BK671.out
      obtain ⟨hcz26_0, hcz26_1, hcz26_2, hcz26_3, hfz26_0, hfz26_1, hfz26_2, hfz26_3⟩ := ze4 BK672.out
      go_wp2
      go_ret
      exact ⟨zE, zW HB.out⟩
end Go.Proofs.YtpcdhoeoefoeoaaGreatDoor.PGA
