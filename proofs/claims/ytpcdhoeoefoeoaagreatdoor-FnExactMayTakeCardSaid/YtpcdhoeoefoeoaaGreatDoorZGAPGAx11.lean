/- The walks of the functions that these laws reach, and what each comes to: printed by this session's program. -/
import Derived.Test.YtpcdhoeoefoeoaaGreatDoorZGAPGAx0
import Derived.Test.YtpcdhoeoefoeoaaGreatDoorZGAPGAx2
import Derived.Test.YtpcdhoeoefoeoaaGreatDoorZGAPGAx9
import Derived.Test.YtpcdhoeoefoeoaaGreatDoorZGAPGAx10
import Derived.Test.YtpcdhoeoefoeoaaGreatDoorZGASays
import Derived.Test.YtpcdhoeoefoeoaaGreatDoorZGARegs
namespace Go.Proofs.YtpcdhoeoefoeoaaGreatDoor.PGA
open Go.RowKit YtpcdhoeoefoeoaaGreatDoorW.PrintWords YtpcdhoeoefoeoaaGreatDoorW.PrintLast YtpcdhoeoefoeoaaGreatDoorW.PrintMore
attribute [local go_sem high] Mine.str_gtr Mine.str_leq Mine.str_geq
attribute [local go_sem] max2_int min2_int max_two min_two max_three min_three max_four min_four   -- for this text's walks alone
set_option linter.unusedVariables false
set_option maxHeartbeats 8000000
set_option maxRecDepth 100000
set_option linter.unusedSimpArgs false
/-! ### spec_InRange: function 43 -/
mutual
def spec_InRange.l0 : Nat → List (List (S75)) → Int → Int → Int → Int → List ByteArray → Option (Bool)
 | 0, _, _, _, _, _, _ => none
 | k + 1, x0, x5, x429000, x429001, x429002, x429003 => if x5 < (x0.length : Int) then (spec_InRange.j1 k x0 x5 x429000 x429001 x429002 x429003) else (some false)
def spec_InRange.j1 : Nat → List (List (S75)) → Int → Int → Int → Int → List ByteArray → Option (Bool)
 | 0, _, _, _, _, _, _ => none
 | k + 1, x0, x5, x429000, x429001, x429002, x429003 => (spec_VerOk.f k x429000 x429001 x429002 x429003).bind fun t429 => (spec_InRange.l1 k x0 x5 t429 ((x429003.length : Int) == 0) 0 x429000 x429001 x429002 x429003)
def spec_InRange.l1 : Nat → List (List (S75)) → Int → Bool → Bool → Int → Int → Int → Int → List ByteArray → Option (Bool)
 | 0, _, _, _, _, _, _, _, _, _ => none
 | k + 1, x0, x5, x6, x7, x8, x429000, x429001, x429002, x429003 => if 0 ≤ x5 then (if x5 < (x0.length : Int) then (if x8 < ((rd_L5 x0 x5).length : Int) then (if x6 = true then (if 0 ≤ x8 then ((spec_CmpOk.f k ((rd_T75 (rd_L5 x0 x5) x8).f0) ((rd_T75 (rd_L5 x0 x5) x8).f1.f0) ((rd_T75 (rd_L5 x0 x5) x8).f1.f1) ((rd_T75 (rd_L5 x0 x5) x8).f1.f2) ((rd_T75 (rd_L5 x0 x5) x8).f1.f3) x429000 x429001 x429002 x429003).bind fun t433 => (if x7 = true then (spec_InRange.l1 k x0 x5 t433 true (wrap64 (x8 + 1)) x429000 x429001 x429002 x429003) else (if (((rd_T75 (rd_L5 x0 x5) x8).f1.f3).length : Int) > 0 then ((spec_l3SameCore.f ((rd_T75 (rd_L5 x0 x5) x8).f1.f0) ((rd_T75 (rd_L5 x0 x5) x8).f1.f1) ((rd_T75 (rd_L5 x0 x5) x8).f1.f2) ((rd_T75 (rd_L5 x0 x5) x8).f1.f3) x429000 x429001 x429002 x429003).bind fun t438 => (spec_InRange.l1 k x0 x5 t433 t438 (wrap64 (x8 + 1)) x429000 x429001 x429002 x429003)) else (spec_InRange.l1 k x0 x5 t433 false (wrap64 (x8 + 1)) x429000 x429001 x429002 x429003)))) else (none)) else (if x7 = true then (spec_InRange.l1 k x0 x5 false true (wrap64 (x8 + 1)) x429000 x429001 x429002 x429003) else (if 0 ≤ x8 then (if (((rd_T75 (rd_L5 x0 x5) x8).f1.f3).length : Int) > 0 then ((spec_l3SameCore.f ((rd_T75 (rd_L5 x0 x5) x8).f1.f0) ((rd_T75 (rd_L5 x0 x5) x8).f1.f1) ((rd_T75 (rd_L5 x0 x5) x8).f1.f2) ((rd_T75 (rd_L5 x0 x5) x8).f1.f3) x429000 x429001 x429002 x429003).bind fun t443 => (spec_InRange.l1 k x0 x5 false t443 (wrap64 (x8 + 1)) x429000 x429001 x429002 x429003)) else (spec_InRange.l1 k x0 x5 false false (wrap64 (x8 + 1)) x429000 x429001 x429002 x429003)) else (none)))) else (if x6 = true then (if x7 = true then (some true) else (spec_InRange.l0 k x0 (wrap64 (x5 + 1)) x429000 x429001 x429002 x429003)) else (spec_InRange.l0 k x0 (wrap64 (x5 + 1)) x429000 x429001 x429002 x429003))) else (none)) else (none)
end
def spec_InRange.f (k : Nat) (l0 : List (List (S75))) (a1_0 a1_1 a1_2 : Int) (l1_3 : List ByteArray) : Option (Bool) := spec_InRange.l0 k l0 0 a1_0 a1_1 a1_2 l1_3
def spec_InRange.T9 : Bool × List (List Nat × List Nat) := (true, [([], []), ([0], [0]), ([1], [1]), ([1], [1]), ([2, 3, 1], [1, 2, 3]), ([4, 1], [1, 4]), ([1], [1]), ([5, 6, 1], [1, 5, 6]), ([7, 1], [1, 7]), ([1], [1]), ([8, 9, 1, 1], [1, 8, 9]), ([1, 10], [1, 10]), ([11, 10, 0, 1, 2, 3, 4, 5, 6, 7, 8, 9, 10, 11], [0, 11])])
def spec_InRange.B9 : List Nat := [0, 1, 3, 3, 15, 31, 3, 127, 255, 3, 1023, 2047, 4095]
theorem spec_InRange.tab9 : rtab .any (opsOf Tryz.f43 9) = spec_InRange.T9 := by kernel_rfl
theorem spec_InRange.bits9 : waitsOk spec_InRange.T9.2 spec_InRange.B9 = true := by kernel_rfl
def spec_InRange.T10 : Bool × List (List Nat × List Nat) := (true, [([], []), ([0], [0]), ([1], [1]), ([1], [1]), ([2, 3, 1], [1, 2, 3]), ([4, 1], [1, 4]), ([1], [1]), ([5, 6, 1], [1, 5, 6]), ([7, 1], [1, 7]), ([8, 1], [1, 8]), ([9, 1], [1, 9]), ([10, 1], [1, 10]), ([11, 1], [1, 11]), ([12, 1, 1], [1, 12]), ([13], [13]), ([13], [13]), ([14, 15, 13], [13, 14, 15]), ([16, 13], [13, 16]), ([13], [13]), ([17, 18, 13], [13, 17, 18]), ([19, 13], [13, 19]), ([20, 13], [13, 20]), ([13], [13]), ([21, 22, 13, 13], [13, 21, 22]), ([13, 23, 1], [1, 13, 23]), ([1, 24], [1, 24]), ([25, 23, 0, 1, 2, 3, 4, 5, 6, 7, 8, 9, 10, 11, 12, 13, 14, 15, 16, 17, 18, 19, 20, 21, 22, 23, 24, 25], [0, 25])])
def spec_InRange.B10 : List Nat := [0, 1, 3, 3, 15, 31, 3, 127, 255, 511, 1023, 2047, 4095, 8191, 16383, 16383, 65535, 131071, 16383, 524287, 1048575, 2097151, 16383, 8388607, 16777215, 33554431, 67108863]
theorem spec_InRange.tab10 : rtab .any (opsOf Tryz.f43 10) = spec_InRange.T10 := by kernel_rfl
theorem spec_InRange.bits10 : waitsOk spec_InRange.T10.2 spec_InRange.B10 = true := by kernel_rfl
theorem spec_InRange.calls (k : Nat) (A0 : Option Addr) (c0 : Nat) (l0 : List (List (S75))) (a1_0 a1_1 a1_2 : Int) (A1_3 : Option Addr) (c1_3 : Nat) (l1_3 : List ByteArray) (r : Bool) (w : World) (hr0 : Kd.C (Kd.slice 75 k75) w A0 l0.length l0) (hc0 : l0.length ≤ c0) (hr1_3 : Kd.C Kd.string w A1_3 l1_3.length l1_3) (hc1_3 : l1_3.length ≤ c1_3) (h : spec_InRange.f k l0 a1_0 a1_1 a1_2 l1_3 = some r) :
  Calls Tryz.prog 43 #[.slice A0 l0.length c0, .agg #[.int .i64 a1_0, .int .i64 a1_1, .int .i64 a1_2, .slice A1_3 l1_3.length c1_3]] w fun e w' => e = .returned (.bool r) ∧ Below w.heap.size w w' := by
 have hu32 := Tryz.underlying32
 have hu75 := Tryz.underlying75
 have HR0 := Aside0.mk hr0
 have HC0 := Aside0.mk hc0
 clear hr0 hc0
 have HR1_3 := Aside0.mk hr1_3
 have HC1_3 := Aside0.mk hc1_3
 clear hr1_3 hc1_3
 have HB := zA (Below.refl w.heap.size w)
 unfold spec_InRange.f at h
 have H := h
 clear h
 have H' := Aside0.mk H
 clear H
 go_enter Tryz.func43, Tryz.ntmps43
 go_wp2_with (first | ((with_reducible refine gate_dst (N := 3) rfl ?_); (try (refine gate_guard (by rfl) ?_; dsimp only)); refine box_event ?hg (N := 3) ?hd (cs := #[.int .i64 a1_0, .int .i64 a1_1, .int .i64 a1_2, .slice A1_3 l1_3.length c1_3]) (t := 32) ?hr ?_; (case hd => rfl); (case hg => rfl); (case hr => first | (go_simp; done) | (go_simp; rfl)); intro gb428 hg w3 hbox hb; have BK428 := zA (hbox); have GW428 := zi HB hg; have GE428 := zi HB hg; replace HB := zA (below_step (zB) hb); clear hb hbox hg))
 go_loopg [5] k (fun kq v5 w' => ∃ (x5_1 : Int), v5 = .int .i64 x5_1 ∧ Aside0 (spec_InRange.l0 kq l0 x5_1 a1_0 a1_1 a1_2 l1_3 = some r) ∧ Aside0 (kq ≤ k) ∧ Aside0 (w'.heap[gb428]? = some (.cells #[.int .i64 a1_0, .int .i64 a1_1, .int .i64 a1_2, (.slice A1_3 l1_3.length c1_3)] 32 (0, 0))) ∧ Aside0 (Below w.heap.size w w'))
 case atStart => exact ⟨(0), zS, H', ⟨Nat.le_refl _⟩, ⟨zK BK428.out⟩, ⟨zW HB.out⟩⟩
 case round =>
  clear H'
  try clear c1
  try clear p2
  obtain ⟨x5_1, rfl, HA, HK1, BK428, HB⟩ := hrel
  cases gk with
  | zero => exact absurd HA.out (by simp [spec_InRange.l0])
  | succ k1 =>
   have H := HA.out
   clear HA
   simp only [spec_InRange.l0] at H
   have HC4 := Aside0.mk H
   clear H
   go_upto_if 12 with (fail)
   go_cut [] (fun wc => ∃ (kq : Nat), Aside0 (spec_InRange.j1 kq l0 x5_1 a1_0 a1_1 a1_2 l1_3 = some r) ∧ Aside0 (kq ≤ k1) ∧ Aside0 (wc.heap[gb428]? = some (.cells #[.int .i64 a1_0, .int .i64 a1_1, .int .i64 a1_2, (.slice A1_3 l1_3.length c1_3)] 32 (0, 0))) ∧ Aside0 (Below w.heap.size w wc))
   case first =>
    have H := HC4.out
    clear HC4
    replace H := zI0 H
    rcases H with ⟨c5b0, H⟩ | ⟨c5b0, H⟩
    ·(first | rw [c5b0] | (simp only [i64_w, i32_w]; rw [c5b0]) | skip)
     have H' := Aside0.mk H
     clear H
     go_wp2
     go_meet
     case rel => exact ⟨_, (by first | exact H' | (subst_vars; exact H')), ⟨by have := HK1.out; first | omega | exact Nat.le_refl _⟩, ⟨zK BK428.out⟩, ⟨zW HB.out⟩⟩
    ·(first | rw [c5b0] | (simp only [i64_w, i32_w]; rw [c5b0]) | skip)
     obtain rfl := Option.some.inj H
     go_wp2
     go_ret
     exact ⟨zE, zW HB.out⟩
   case rest =>
    clear HC4
    try clear c1
    try clear p2
    try clear c4
    try clear c5
    try clear c5b0
    try clear p2
    obtain ⟨kq, HA, HJ3, BK428, HB⟩ := hcut
    cases kq with
    | zero => exact absurd HA.out (by simp [spec_InRange.j1])
    | succ kj3 =>
     have H := HA.out
     clear HA
     simp only [spec_InRange.j1] at H
     replace H := zj H
     obtain ⟨t429, A6, H⟩ := H
     try dsimp only at H
     have H' := Aside0.mk H
     clear H
     obtain ⟨hcz7_0, hcz7_1, hcz7_2, hcz7_3, hfz7_0, hfz7_1, hfz7_2, hfz7_3⟩ := ze4 BK428.out
     go_wp2_with (first | ((with_reducible refine zq 68 ?_); refine zg (some 16) Tryz.func68 #[.agg #[.int .i64 a1_0, .int .i64 a1_1, .int .i64 a1_2, .slice A1_3 l1_3.length c1_3]] ?_; (with_reducible refine (spec_VerOk.calls kj3 a1_0 a1_1 a1_2 _ _ l1_3 t429 _ ?side1 ?side2 A6.out).mono ?_); (case side1 => exact zC (Kd.C_below HR1_3.out HB.out)); (case side2 => exact HC1_3.out); rintro e w8 ⟨rfl, hb⟩; refine ⟨_, rfl, ?_⟩; replace BK428 := zb BK428 hb; replace HB := zh HB hb; (try clear hb); obtain ⟨hcz9_0, hcz9_1, hcz9_2, hcz9_3, hfz9_0, hfz9_1, hfz9_2, hfz9_3⟩ := ze4 BK428.out))
     go_loopg [6, 7, 8] kj3 (fun kq v6 v7 v8 w' => ∃ (x6_3 : Bool) (x7_3 : Bool) (x8_3 : Int), v6 = .bool x6_3 ∧ v7 = .bool x7_3 ∧ v8 = .int .i64 x8_3 ∧ Aside0 (spec_InRange.l1 kq l0 x5_1 x6_3 x7_3 x8_3 a1_0 a1_1 a1_2 l1_3 = some r) ∧ Aside0 (kq ≤ kj3) ∧ Aside0 (w'.heap[gb428]? = some (.cells #[.int .i64 a1_0, .int .i64 a1_1, .int .i64 a1_2, (.slice A1_3 l1_3.length c1_3)] 32 (0, 0))) ∧ Aside0 (Below w.heap.size w w'))
     case atStart => exact ⟨(t429), (((l1_3.length : Int) == 0)), (0), zS, zS, zS, H', ⟨Nat.le_refl _⟩, ⟨zK BK428.out⟩, ⟨zW HB.out⟩⟩
     case round =>
      clear H'
      try clear c1
      try clear p2
      try clear c4
      try clear c5
      try clear c5b0
      try clear c6
      try clear hcz7_0 hcz7_1 hcz7_2 hcz7_3 hfz7_0 hfz7_1 hfz7_2 hfz7_3
      try clear hcz9_0 hcz9_1 hcz9_2 hcz9_3 hfz9_0 hfz9_1 hfz9_2 hfz9_3
      try clear p2
      obtain ⟨x6_3, x7_3, x8_3, rfl, rfl, rfl, HA, HK3, BK428, HB⟩ := hrel
      cases gk with
      | zero => exact absurd HA.out (by simp [spec_InRange.l1])
      | succ k3 =>
       have H := HA.out
       clear HA
       simp only [spec_InRange.l1] at H
       replace H := zD0 H
       obtain ⟨c10b0, H⟩ := H
       replace H := zD0 H
       obtain ⟨c11b0, H⟩ := H
       replace H := zI0 H
       rcases H with ⟨c12b0, H⟩ | ⟨c12b0, H⟩
       ·replace H := zB0 H
        rcases H with ⟨rfl, H⟩ | ⟨rfl, H⟩
        ·replace H := zD0 H
         obtain ⟨c14b0, H⟩ := H
         replace H := zj H
         obtain ⟨t433, A15, H⟩ := H
         try dsimp only at H
         replace H := zB0 H
         rcases H with ⟨rfl, H⟩ | ⟨rfl, H⟩
         ·have H' := Aside0.mk H
          clear H
          have p430 : 0 ≤ (x5_1 : Int) := zD
          have q430 : x5_1 < (l0.length : Int) := zD
          obtain ⟨ad430, A430_0, c430_0, e430, hx430_0, hl430_0, hi430_0⟩ := at_L5 HR0.out x5_1 p430 q430
          cases e430
          replace hx430_0 := zx HB hx430_0
          have HR430_0 := Aside0.mk hi430_0
          have HC430_0 := Aside0.mk hl430_0
          clear hi430_0 hl430_0
          replace p430 := eq_true p430
          replace q430 := eq_true q430
          try go_wp2
          replace BK428 := zA (blk_drew BK428.out)
          replace HB := zA (below_drew1 HB.out)
          have p431 : 0 ≤ (x5_1 : Int) := zD
          have q431 : x5_1 < (l0.length : Int) := zD
          obtain ⟨ad431, A431_0, c431_0, e431, hx431_0, hl431_0, hi431_0⟩ := at_L5 HR0.out x5_1 p431 q431
          have hw431_0 := hx431_0
          obtain rfl : ad430 = ad431 := (by injection e431)
          replace hx431_0 := zx HB hx431_0
          have HR431_0 := Aside0.mk hi431_0
          have HC431_0 := Aside0.mk hl431_0
          clear hi431_0 hl431_0
          replace p431 := eq_true p431
          replace q431 := eq_true q431
          have p432 : 0 ≤ (x8_3 : Int) := zD
          have q432 : x8_3 < ((rd_L5 l0 x5_1).length : Int) := zD
          obtain ⟨ad432, A432_4, c432_4, e432, hx432_0, hx432_1, hx432_2, hx432_3, hx432_4, hl432_4, hi432_4⟩ := at_T75 HR431_0.out x8_3 p432 q432
          have hw432_4 := hx432_4
          have hw432_3 := hx432_3
          have hw432_2 := hx432_2
          have hw432_1 := hx432_1
          have hw432_0 := hx432_0
          cases e432
          replace hx432_0 := zx HB hx432_0
          replace hx432_1 := zx HB hx432_1
          replace hx432_2 := zx HB hx432_2
          replace hx432_3 := zx HB hx432_3
          replace hx432_4 := zx HB hx432_4
          have HR432_4 := Aside0.mk hi432_4
          have HC432_4 := Aside0.mk hl432_4
          clear hi432_4 hl432_4
          replace p432 := eq_true p432
          replace q432 := eq_true q432
          refine start_ (n := 13) (S := fun w' => w'.cell? ⟨gb428, 0, none⟩ = some (.int .i64 a1_0) ∧ w'.cell? ⟨gb428, 1, none⟩ = some (.int .i64 a1_1) ∧ w'.cell? ⟨gb428, 2, none⟩ = some (.int .i64 a1_2) ∧ w'.cell? ⟨gb428, 3, none⟩ = some (.slice A1_3 l1_3.length c1_3) ∧ w'.cell? (ad430.add (x5_1).toNat) = some (.slice (some ad432) (rd_L5 l0 x5_1).length c431_0) ∧ w'.cell? (ad432.add ((x8_3).toNat * 5)) = some (.int .i64 ((rd_T75 (rd_L5 l0 x5_1) x8_3).f0)) ∧ w'.cell? ⟨(ad432.add ((x8_3).toNat * 5)).block, (ad432.add ((x8_3).toNat * 5)).off + 1, none⟩ = some (.int .i64 ((rd_T75 (rd_L5 l0 x5_1) x8_3).f1.f0)) ∧ w'.cell? ⟨(ad432.add ((x8_3).toNat * 5)).block, (ad432.add ((x8_3).toNat * 5)).off + 2, none⟩ = some (.int .i64 ((rd_T75 (rd_L5 l0 x5_1) x8_3).f1.f1)) ∧ w'.cell? ⟨(ad432.add ((x8_3).toNat * 5)).block, (ad432.add ((x8_3).toNat * 5)).off + 3, none⟩ = some (.int .i64 ((rd_T75 (rd_L5 l0 x5_1) x8_3).f1.f2)) ∧ w'.cell? ⟨(ad432.add ((x8_3).toNat * 5)).block, (ad432.add ((x8_3).toNat * 5)).off + 4, none⟩ = some (.slice A432_4 ((rd_T75 (rd_L5 l0 x5_1) x8_3).f1.f3).length c432_4)) (ds := []) (Array.replicate 13 false) (by kernel_rfl) rfl rfl ⟨(blk_cell BK428.out 0).trans rfl, (blk_cell BK428.out 1).trans rfl, (blk_cell BK428.out 2).trans rfl, (blk_cell BK428.out 3).trans rfl, ((HB.out.cell (World.block_lt_of_cell? w _ hw431_0)).trans hw431_0), ((HB.out.cell (World.block_lt_of_cell? w _ hw432_0)).trans hw432_0), ((HB.out.cell (World.block_lt_of_cell? w _ hw432_1)).trans hw432_1), ((HB.out.cell (World.block_lt_of_cell? w _ hw432_2)).trans hw432_2), ((HB.out.cell (World.block_lt_of_cell? w _ hw432_3)).trans hw432_3), ((HB.out.cell (World.block_lt_of_cell? w _ hw432_4)).trans hw432_4)⟩ (fun hHeld => ?_); refine with_tabW spec_InRange.tab9 spec_InRange.bits9 (fun HT_ HW_ => ?_)
          generalize wr.drew = w17 at BK428 HB HR431_0 HR432_4 hx431_0 hx432_0 hx432_1 hx432_2 hx432_3 hx432_4 hHeld ⊢
          refine zp 0 30 ?_
          refine zp 1 31 ?_
          refine zp 2 32 ?_
          refine zp 3 33 ?_
          refine zp 4 34 ?_
          refine zp 6 36 ?_
          refine zt 5 35 ?_
          refine zp 7 37 ?_
          refine zt 8 38 ?_
          refine zt 9 39 ?_
          refine zo 10 (some 40) fun K hK => ?_
          refine goes_ Tryz.func45 (by kernel_rfl) rfl #[.agg #[.int .i64 ((rd_T75 (rd_L5 l0 x5_1) x8_3).f0), .int .i64 ((rd_T75 (rd_L5 l0 x5_1) x8_3).f1.f0), .int .i64 ((rd_T75 (rd_L5 l0 x5_1) x8_3).f1.f1), .int .i64 ((rd_T75 (rd_L5 l0 x5_1) x8_3).f1.f2), .slice A432_4 ((rd_T75 (rd_L5 l0 x5_1) x8_3).f1.f3).length c432_4], .agg #[.int .i64 a1_0, .int .i64 a1_1, .int .i64 a1_2, .slice A1_3 l1_3.length c1_3]] (by rfl) rfl rfl zM ?_
          with_reducible refine (spec_CmpOk.calls k3 ((rd_T75 (rd_L5 l0 x5_1) x8_3).f0) ((rd_T75 (rd_L5 l0 x5_1) x8_3).f1.f0) ((rd_T75 (rd_L5 l0 x5_1) x8_3).f1.f1) ((rd_T75 (rd_L5 l0 x5_1) x8_3).f1.f2) _ _ ((rd_T75 (rd_L5 l0 x5_1) x8_3).f1.f3) a1_0 a1_1 a1_2 _ _ l1_3 t433 _ ?side1 ?side2 ?side3 ?side4 A15.out).mono ?_
          (case side1 => exact zC (Kd.C_below HR432_4.out HB.out))
          (case side2 => exact HC432_4.out)
          (case side3 => exact zC (Kd.C_below HR1_3.out HB.out))
          (case side4 => exact HC1_3.out)
          rintro e w18 ⟨rfl, hb⟩
          refine ⟨_, rfl, ?_⟩
          replace BK428 := zb BK428 hb
          replace HB := zh HB hb
          (try clear hb)
          refine hK.out _ _ ⟨(blk_cell BK428.out 0).trans rfl, (blk_cell BK428.out 1).trans rfl, (blk_cell BK428.out 2).trans rfl, (blk_cell BK428.out 3).trans rfl, ((HB.out.cell (World.block_lt_of_cell? w _ hw431_0)).trans hw431_0), ((HB.out.cell (World.block_lt_of_cell? w _ hw432_0)).trans hw432_0), ((HB.out.cell (World.block_lt_of_cell? w _ hw432_1)).trans hw432_1), ((HB.out.cell (World.block_lt_of_cell? w _ hw432_2)).trans hw432_2), ((HB.out.cell (World.block_lt_of_cell? w _ hw432_3)).trans hw432_3), ((HB.out.cell (World.block_lt_of_cell? w _ hw432_4)).trans hw432_4)⟩ (fun hHeld => ?_)
          clear hK K
          refine zn ?_
          refine zp 11 41 ?_
          refine zp 12 6 ?_
          refine done_ (done_of HT_.out (by kernel_rfl)) ?_
          try go_wp2
          replace BK428 := zA (blk_drew BK428.out)
          replace HB := zA (below_drew1 HB.out)
          refine start_ (n := 27) (S := fun w' => True) (ds := []) (Array.replicate 27 false) (by kernel_rfl) rfl rfl trivial (fun hHeld => ?_); refine with_tabW spec_InRange.tab10 spec_InRange.bits10 (fun HT_ HW_ => ?_)
          generalize w18.drew = w19 at BK428 HB hHeld ⊢
          refine zp 0 42 ?_
          refine zp 1 43 ?_
          refine zu 2 44 ?_
          refine zu 3 45 ?_
          refine zu 4 46 ?_
          refine zu 5 47 ?_
          refine zu 6 48 ?_
          refine zu 7 49 ?_
          refine zu 8 50 ?_
          refine zu 9 51 ?_
          refine zu 10 52 ?_
          refine zu 11 53 ?_
          refine zu 12 54 ?_
          refine zu 13 55 ?_
          refine zu 14 56 ?_
          refine zu 15 57 ?_
          refine zu 16 58 ?_
          refine zu 17 59 ?_
          refine zu 18 60 ?_
          refine zu 19 61 ?_
          refine zu 20 62 ?_
          refine zu 21 63 ?_
          refine zu 22 64 ?_
          refine zu 23 65 ?_
          refine zu 24 66 ?_
          refine zp 25 67 ?_
          refine zp 26 7 ?_
          refine done_ (done_of HT_.out (by kernel_rfl)) ?_
          try go_wp2
          go_roundg k3
          case measure => have := HK1.out; have := HJ3.out; have := HK3.out; omega
          case rel => exact ⟨(t433), (true), (wrap64 (x8_3 + 1)), zS, zS, zS, H', ⟨by have := HK1.out; have := HJ3.out; have := HK3.out; omega⟩, ⟨zK BK428.out⟩, ⟨zW HB.out⟩⟩
         ·replace H := zI1 H
          rcases H with ⟨c20, H⟩ | ⟨c20, H⟩
          ·have c20b0 : decide (0 < (((rd_T75 (rd_L5 l0 x5_1) x8_3).f1.f3).length : Int)) = true := decide_eq_true c20
           have c20b1 : decide (0 < ((rd_T75 (rd_L5 l0 x5_1) x8_3).f1.f3).length) = true := decide_eq_true (by omega)
           clear c20
           replace H := zj H
           obtain ⟨t438, A21, H⟩ := H
           try dsimp only at H
           have H' := Aside0.mk H
           clear H
           have p430 : 0 ≤ (x5_1 : Int) := zD
           have q430 : x5_1 < (l0.length : Int) := zD
           obtain ⟨ad430, A430_0, c430_0, e430, hx430_0, hl430_0, hi430_0⟩ := at_L5 HR0.out x5_1 p430 q430
           cases e430
           replace hx430_0 := zx HB hx430_0
           have HR430_0 := Aside0.mk hi430_0
           have HC430_0 := Aside0.mk hl430_0
           clear hi430_0 hl430_0
           replace p430 := eq_true p430
           replace q430 := eq_true q430
           try go_wp2
           replace BK428 := zA (blk_drew BK428.out)
           replace HB := zA (below_drew1 HB.out)
           have p431 : 0 ≤ (x5_1 : Int) := zD
           have q431 : x5_1 < (l0.length : Int) := zD
           obtain ⟨ad431, A431_0, c431_0, e431, hx431_0, hl431_0, hi431_0⟩ := at_L5 HR0.out x5_1 p431 q431
           have hw431_0 := hx431_0
           obtain rfl : ad430 = ad431 := (by injection e431)
           replace hx431_0 := zx HB hx431_0
           have HR431_0 := Aside0.mk hi431_0
           have HC431_0 := Aside0.mk hl431_0
           clear hi431_0 hl431_0
           replace p431 := eq_true p431
           replace q431 := eq_true q431
           have p432 : 0 ≤ (x8_3 : Int) := zD
           have q432 : x8_3 < ((rd_L5 l0 x5_1).length : Int) := zD
           obtain ⟨ad432, A432_4, c432_4, e432, hx432_0, hx432_1, hx432_2, hx432_3, hx432_4, hl432_4, hi432_4⟩ := at_T75 HR431_0.out x8_3 p432 q432
           have hw432_4 := hx432_4
           have hw432_3 := hx432_3
           have hw432_2 := hx432_2
           have hw432_1 := hx432_1
           have hw432_0 := hx432_0
           cases e432
           replace hx432_0 := zx HB hx432_0
           replace hx432_1 := zx HB hx432_1
           replace hx432_2 := zx HB hx432_2
           replace hx432_3 := zx HB hx432_3
           replace hx432_4 := zx HB hx432_4
           have HR432_4 := Aside0.mk hi432_4
           have HC432_4 := Aside0.mk hl432_4
           clear hi432_4 hl432_4
           replace p432 := eq_true p432
           replace q432 := eq_true q432
           refine start_ (n := 13) (S := fun w' => w'.cell? ⟨gb428, 0, none⟩ = some (.int .i64 a1_0) ∧ w'.cell? ⟨gb428, 1, none⟩ = some (.int .i64 a1_1) ∧ w'.cell? ⟨gb428, 2, none⟩ = some (.int .i64 a1_2) ∧ w'.cell? ⟨gb428, 3, none⟩ = some (.slice A1_3 l1_3.length c1_3) ∧ w'.cell? (ad430.add (x5_1).toNat) = some (.slice (some ad432) (rd_L5 l0 x5_1).length c431_0) ∧ w'.cell? (ad432.add ((x8_3).toNat * 5)) = some (.int .i64 ((rd_T75 (rd_L5 l0 x5_1) x8_3).f0)) ∧ w'.cell? ⟨(ad432.add ((x8_3).toNat * 5)).block, (ad432.add ((x8_3).toNat * 5)).off + 1, none⟩ = some (.int .i64 ((rd_T75 (rd_L5 l0 x5_1) x8_3).f1.f0)) ∧ w'.cell? ⟨(ad432.add ((x8_3).toNat * 5)).block, (ad432.add ((x8_3).toNat * 5)).off + 2, none⟩ = some (.int .i64 ((rd_T75 (rd_L5 l0 x5_1) x8_3).f1.f1)) ∧ w'.cell? ⟨(ad432.add ((x8_3).toNat * 5)).block, (ad432.add ((x8_3).toNat * 5)).off + 3, none⟩ = some (.int .i64 ((rd_T75 (rd_L5 l0 x5_1) x8_3).f1.f2)) ∧ w'.cell? ⟨(ad432.add ((x8_3).toNat * 5)).block, (ad432.add ((x8_3).toNat * 5)).off + 4, none⟩ = some (.slice A432_4 ((rd_T75 (rd_L5 l0 x5_1) x8_3).f1.f3).length c432_4)) (ds := []) (Array.replicate 13 false) (by kernel_rfl) rfl rfl ⟨(blk_cell BK428.out 0).trans rfl, (blk_cell BK428.out 1).trans rfl, (blk_cell BK428.out 2).trans rfl, (blk_cell BK428.out 3).trans rfl, ((HB.out.cell (World.block_lt_of_cell? w _ hw431_0)).trans hw431_0), ((HB.out.cell (World.block_lt_of_cell? w _ hw432_0)).trans hw432_0), ((HB.out.cell (World.block_lt_of_cell? w _ hw432_1)).trans hw432_1), ((HB.out.cell (World.block_lt_of_cell? w _ hw432_2)).trans hw432_2), ((HB.out.cell (World.block_lt_of_cell? w _ hw432_3)).trans hw432_3), ((HB.out.cell (World.block_lt_of_cell? w _ hw432_4)).trans hw432_4)⟩ (fun hHeld => ?_); refine with_tabW spec_InRange.tab9 spec_InRange.bits9 (fun HT_ HW_ => ?_)
           generalize wr.drew = w22 at BK428 HB HR431_0 HR432_4 hx431_0 hx432_0 hx432_1 hx432_2 hx432_3 hx432_4 hHeld ⊢
           refine zp 0 30 ?_
           refine zp 1 31 ?_
           refine zp 2 32 ?_
           refine zp 3 33 ?_
           refine zp 4 34 ?_
           refine zp 6 36 ?_
           refine zt 5 35 ?_
           refine zp 7 37 ?_
           refine zt 8 38 ?_
           refine zt 9 39 ?_
           refine zo 10 (some 40) fun K hK => ?_
           refine goes_ Tryz.func45 (by kernel_rfl) rfl #[.agg #[.int .i64 ((rd_T75 (rd_L5 l0 x5_1) x8_3).f0), .int .i64 ((rd_T75 (rd_L5 l0 x5_1) x8_3).f1.f0), .int .i64 ((rd_T75 (rd_L5 l0 x5_1) x8_3).f1.f1), .int .i64 ((rd_T75 (rd_L5 l0 x5_1) x8_3).f1.f2), .slice A432_4 ((rd_T75 (rd_L5 l0 x5_1) x8_3).f1.f3).length c432_4], .agg #[.int .i64 a1_0, .int .i64 a1_1, .int .i64 a1_2, .slice A1_3 l1_3.length c1_3]] (by rfl) rfl rfl zM ?_
           with_reducible refine (spec_CmpOk.calls k3 ((rd_T75 (rd_L5 l0 x5_1) x8_3).f0) ((rd_T75 (rd_L5 l0 x5_1) x8_3).f1.f0) ((rd_T75 (rd_L5 l0 x5_1) x8_3).f1.f1) ((rd_T75 (rd_L5 l0 x5_1) x8_3).f1.f2) _ _ ((rd_T75 (rd_L5 l0 x5_1) x8_3).f1.f3) a1_0 a1_1 a1_2 _ _ l1_3 t433 _ ?side1 ?side2 ?side3 ?side4 A15.out).mono ?_
           (case side1 => exact zC (Kd.C_below HR432_4.out HB.out))
           (case side2 => exact HC432_4.out)
           (case side3 => exact zC (Kd.C_below HR1_3.out HB.out))
           (case side4 => exact HC1_3.out)
           rintro e w23 ⟨rfl, hb⟩
           refine ⟨_, rfl, ?_⟩
           replace BK428 := zb BK428 hb
           replace HB := zh HB hb
           (try clear hb)
           refine hK.out _ _ ⟨(blk_cell BK428.out 0).trans rfl, (blk_cell BK428.out 1).trans rfl, (blk_cell BK428.out 2).trans rfl, (blk_cell BK428.out 3).trans rfl, ((HB.out.cell (World.block_lt_of_cell? w _ hw431_0)).trans hw431_0), ((HB.out.cell (World.block_lt_of_cell? w _ hw432_0)).trans hw432_0), ((HB.out.cell (World.block_lt_of_cell? w _ hw432_1)).trans hw432_1), ((HB.out.cell (World.block_lt_of_cell? w _ hw432_2)).trans hw432_2), ((HB.out.cell (World.block_lt_of_cell? w _ hw432_3)).trans hw432_3), ((HB.out.cell (World.block_lt_of_cell? w _ hw432_4)).trans hw432_4)⟩ (fun hHeld => ?_)
           clear hK K
           refine zn ?_
           refine zp 11 41 ?_
           refine zp 12 6 ?_
           refine done_ (done_of HT_.out (by kernel_rfl)) ?_
           try go_wp2
           replace BK428 := zA (blk_drew BK428.out)
           replace HB := zA (below_drew1 HB.out)
           have p434 : 0 ≤ (x5_1 : Int) := zD
           have q434 : x5_1 < (l0.length : Int) := zD
           obtain ⟨ad434, A434_0, c434_0, e434, hx434_0, hl434_0, hi434_0⟩ := at_L5 HR0.out x5_1 p434 q434
           have hw434_0 := hx434_0
           obtain rfl : ad430 = ad434 := (by injection e434)
           replace hx434_0 := zx HB hx434_0
           have HR434_0 := Aside0.mk hi434_0
           have HC434_0 := Aside0.mk hl434_0
           clear hi434_0 hl434_0
           replace p434 := eq_true p434
           replace q434 := eq_true q434
           have p435 : 0 ≤ (x8_3 : Int) := zD
           have q435 : x8_3 < ((rd_L5 l0 x5_1).length : Int) := zD
           obtain ⟨ad435, A435_4, c435_4, e435, hx435_0, hx435_1, hx435_2, hx435_3, hx435_4, hl435_4, hi435_4⟩ := at_T75 HR434_0.out x8_3 p435 q435
           have hw435_4 := hx435_4
           have hw435_3 := hx435_3
           have hw435_2 := hx435_2
           have hw435_1 := hx435_1
           have hw435_0 := hx435_0
           cases e435
           replace hx435_0 := zx HB hx435_0
           replace hx435_1 := zx HB hx435_1
           replace hx435_2 := zx HB hx435_2
           replace hx435_3 := zx HB hx435_3
           replace hx435_4 := zx HB hx435_4
           have HR435_4 := Aside0.mk hi435_4
           have HC435_4 := Aside0.mk hl435_4
           clear hi435_4 hl435_4
           replace p435 := eq_true p435
           replace q435 := eq_true q435
           have p436 : 0 ≤ (x5_1 : Int) := zD
           have q436 : x5_1 < (l0.length : Int) := zD
           obtain ⟨ad436, A436_0, c436_0, e436, hx436_0, hl436_0, hi436_0⟩ := at_L5 HR0.out x5_1 p436 q436
           have hw436_0 := hx436_0
           obtain rfl : ad430 = ad436 := (by injection e436)
           replace hx436_0 := zx HB hx436_0
           have HR436_0 := Aside0.mk hi436_0
           have HC436_0 := Aside0.mk hl436_0
           clear hi436_0 hl436_0
           replace p436 := eq_true p436
           replace q436 := eq_true q436
           have ea_ := Option.some.inj (hx434_0.symm.trans hx436_0)
           injection ea_ with ea_ en_ ec_
           subst ea_
           subst ec_
           clear en_
           have p437 : 0 ≤ (x8_3 : Int) := zD
           have q437 : x8_3 < ((rd_L5 l0 x5_1).length : Int) := zD
           obtain ⟨ad437, A437_4, c437_4, e437, hx437_0, hx437_1, hx437_2, hx437_3, hx437_4, hl437_4, hi437_4⟩ := at_T75 HR436_0.out x8_3 p437 q437
           have hw437_4 := hx437_4
           have hw437_3 := hx437_3
           have hw437_2 := hx437_2
           have hw437_1 := hx437_1
           have hw437_0 := hx437_0
           cases e437
           replace hx437_0 := zx HB hx437_0
           replace hx437_1 := zx HB hx437_1
           replace hx437_2 := zx HB hx437_2
           replace hx437_3 := zx HB hx437_3
           replace hx437_4 := zx HB hx437_4
           have HR437_4 := Aside0.mk hi437_4
           have HC437_4 := Aside0.mk hl437_4
           clear hi437_4 hl437_4
           have ea_ := Option.some.inj (hx435_4.symm.trans hx437_4)
           injection ea_ with ea_ en_ ec_
           subst ea_
           subst ec_
           clear en_
           replace p437 := eq_true p437
           replace q437 := eq_true q437
           refine start_ (n := 27) (S := fun w' => w'.cell? ⟨gb428, 0, none⟩ = some (.int .i64 a1_0) ∧ w'.cell? ⟨gb428, 1, none⟩ = some (.int .i64 a1_1) ∧ w'.cell? ⟨gb428, 2, none⟩ = some (.int .i64 a1_2) ∧ w'.cell? ⟨gb428, 3, none⟩ = some (.slice A1_3 l1_3.length c1_3) ∧ w'.cell? (ad430.add (x5_1).toNat) = some (.slice (some ad435) (rd_L5 l0 x5_1).length c434_0) ∧ w'.cell? (ad435.add ((x8_3).toNat * 5)) = some (.int .i64 ((rd_T75 (rd_L5 l0 x5_1) x8_3).f0)) ∧ w'.cell? ⟨(ad435.add ((x8_3).toNat * 5)).block, (ad435.add ((x8_3).toNat * 5)).off + 1, none⟩ = some (.int .i64 ((rd_T75 (rd_L5 l0 x5_1) x8_3).f1.f0)) ∧ w'.cell? ⟨(ad435.add ((x8_3).toNat * 5)).block, (ad435.add ((x8_3).toNat * 5)).off + 2, none⟩ = some (.int .i64 ((rd_T75 (rd_L5 l0 x5_1) x8_3).f1.f1)) ∧ w'.cell? ⟨(ad435.add ((x8_3).toNat * 5)).block, (ad435.add ((x8_3).toNat * 5)).off + 3, none⟩ = some (.int .i64 ((rd_T75 (rd_L5 l0 x5_1) x8_3).f1.f2)) ∧ w'.cell? ⟨(ad435.add ((x8_3).toNat * 5)).block, (ad435.add ((x8_3).toNat * 5)).off + 4, none⟩ = some (.slice A435_4 ((rd_T75 (rd_L5 l0 x5_1) x8_3).f1.f3).length c435_4) ∧ w'.cell? (ad430.add (x5_1).toNat) = some (.slice (some ad435) (rd_L5 l0 x5_1).length c434_0) ∧ w'.cell? (ad435.add ((x8_3).toNat * 5)) = some (.int .i64 ((rd_T75 (rd_L5 l0 x5_1) x8_3).f0)) ∧ w'.cell? ⟨(ad435.add ((x8_3).toNat * 5)).block, (ad435.add ((x8_3).toNat * 5)).off + 1, none⟩ = some (.int .i64 ((rd_T75 (rd_L5 l0 x5_1) x8_3).f1.f0)) ∧ w'.cell? ⟨(ad435.add ((x8_3).toNat * 5)).block, (ad435.add ((x8_3).toNat * 5)).off + 2, none⟩ = some (.int .i64 ((rd_T75 (rd_L5 l0 x5_1) x8_3).f1.f1)) ∧ w'.cell? ⟨(ad435.add ((x8_3).toNat * 5)).block, (ad435.add ((x8_3).toNat * 5)).off + 3, none⟩ = some (.int .i64 ((rd_T75 (rd_L5 l0 x5_1) x8_3).f1.f2)) ∧ w'.cell? ⟨(ad435.add ((x8_3).toNat * 5)).block, (ad435.add ((x8_3).toNat * 5)).off + 4, none⟩ = some (.slice A435_4 ((rd_T75 (rd_L5 l0 x5_1) x8_3).f1.f3).length c435_4)) (ds := []) (Array.replicate 27 false) (by kernel_rfl) rfl rfl ⟨(blk_cell BK428.out 0).trans rfl, (blk_cell BK428.out 1).trans rfl, (blk_cell BK428.out 2).trans rfl, (blk_cell BK428.out 3).trans rfl, ((HB.out.cell (World.block_lt_of_cell? w _ hw434_0)).trans hw434_0), ((HB.out.cell (World.block_lt_of_cell? w _ hw435_0)).trans hw435_0), ((HB.out.cell (World.block_lt_of_cell? w _ hw435_1)).trans hw435_1), ((HB.out.cell (World.block_lt_of_cell? w _ hw435_2)).trans hw435_2), ((HB.out.cell (World.block_lt_of_cell? w _ hw435_3)).trans hw435_3), ((HB.out.cell (World.block_lt_of_cell? w _ hw435_4)).trans hw435_4), ((HB.out.cell (World.block_lt_of_cell? w _ hw436_0)).trans hw436_0), ((HB.out.cell (World.block_lt_of_cell? w _ hw437_0)).trans hw437_0), ((HB.out.cell (World.block_lt_of_cell? w _ hw437_1)).trans hw437_1), ((HB.out.cell (World.block_lt_of_cell? w _ hw437_2)).trans hw437_2), ((HB.out.cell (World.block_lt_of_cell? w _ hw437_3)).trans hw437_3), ((HB.out.cell (World.block_lt_of_cell? w _ hw437_4)).trans hw437_4)⟩ (fun hHeld => ?_); refine with_tabW spec_InRange.tab10 spec_InRange.bits10 (fun HT_ HW_ => ?_)
           generalize w23.drew = w24 at BK428 HB HR434_0 HR435_4 HR436_0 HR437_4 hx434_0 hx435_0 hx435_1 hx435_2 hx435_3 hx435_4 hx436_0 hx437_0 hx437_1 hx437_2 hx437_3 hx437_4 hHeld ⊢
           refine zp 0 42 ?_
           refine zp 1 43 ?_
           refine zp 2 44 ?_
           refine zp 3 45 ?_
           refine zp 4 46 ?_
           refine zp 6 48 ?_
           refine zt 5 47 ?_
           refine zp 7 49 ?_
           refine zp 8 50 ?_
           refine zp 9 51 ?_
           refine zt 10 52 ?_
           refine zp 11 53 ?_
           refine zp 12 54 ?_
           refine zp 13 55 ?_
           refine zp 14 56 ?_
           refine zp 15 57 ?_
           refine zp 16 58 ?_
           refine zp 18 60 ?_
           refine zt 17 59 ?_
           refine zp 19 61 ?_
           refine zp 20 62 ?_
           refine zt 21 63 ?_
           refine zt 22 64 ?_
           refine zo 23 (some 65) fun K hK => ?_
           refine goes_ Tryz.func97 (by kernel_rfl) rfl #[.agg #[.int .i64 ((rd_T75 (rd_L5 l0 x5_1) x8_3).f1.f0), .int .i64 ((rd_T75 (rd_L5 l0 x5_1) x8_3).f1.f1), .int .i64 ((rd_T75 (rd_L5 l0 x5_1) x8_3).f1.f2), .slice A435_4 ((rd_T75 (rd_L5 l0 x5_1) x8_3).f1.f3).length c435_4], .agg #[.int .i64 a1_0, .int .i64 a1_1, .int .i64 a1_2, .slice A1_3 l1_3.length c1_3]] (by rfl) rfl rfl zM ?_
           with_reducible refine (spec_l3SameCore.calls ((rd_T75 (rd_L5 l0 x5_1) x8_3).f1.f0) ((rd_T75 (rd_L5 l0 x5_1) x8_3).f1.f1) ((rd_T75 (rd_L5 l0 x5_1) x8_3).f1.f2) _ _ ((rd_T75 (rd_L5 l0 x5_1) x8_3).f1.f3) a1_0 a1_1 a1_2 _ _ l1_3 t438 _ ?side1 ?side2 ?side3 ?side4 A21.out).mono ?_
           (case side1 => exact zC (Kd.C_below HR437_4.out HB.out))
           (case side2 => exact HC437_4.out)
           (case side3 => exact zC (Kd.C_below HR1_3.out HB.out))
           (case side4 => exact HC1_3.out)
           rintro e w25 ⟨rfl, hb⟩
           refine ⟨_, rfl, ?_⟩
           replace BK428 := zb BK428 hb
           replace HB := zh HB hb
           (try clear hb)
           refine hK.out _ _ ⟨(blk_cell BK428.out 0).trans rfl, (blk_cell BK428.out 1).trans rfl, (blk_cell BK428.out 2).trans rfl, (blk_cell BK428.out 3).trans rfl, ((HB.out.cell (World.block_lt_of_cell? w _ hw434_0)).trans hw434_0), ((HB.out.cell (World.block_lt_of_cell? w _ hw435_0)).trans hw435_0), ((HB.out.cell (World.block_lt_of_cell? w _ hw435_1)).trans hw435_1), ((HB.out.cell (World.block_lt_of_cell? w _ hw435_2)).trans hw435_2), ((HB.out.cell (World.block_lt_of_cell? w _ hw435_3)).trans hw435_3), ((HB.out.cell (World.block_lt_of_cell? w _ hw435_4)).trans hw435_4), ((HB.out.cell (World.block_lt_of_cell? w _ hw436_0)).trans hw436_0), ((HB.out.cell (World.block_lt_of_cell? w _ hw437_0)).trans hw437_0), ((HB.out.cell (World.block_lt_of_cell? w _ hw437_1)).trans hw437_1), ((HB.out.cell (World.block_lt_of_cell? w _ hw437_2)).trans hw437_2), ((HB.out.cell (World.block_lt_of_cell? w _ hw437_3)).trans hw437_3), ((HB.out.cell (World.block_lt_of_cell? w _ hw437_4)).trans hw437_4)⟩ (fun hHeld => ?_)
           clear hK K
           refine zn ?_
           refine zp 24 66 ?_
           refine zp 25 67 ?_
           refine zp 26 7 ?_
           refine done_ (done_of HT_.out (by kernel_rfl)) ?_
           try go_wp2
           go_roundg k3
           case measure => have := HK1.out; have := HJ3.out; have := HK3.out; omega
           case rel => exact ⟨(t433), (t438), (wrap64 (x8_3 + 1)), zS, zS, zS, H', ⟨by have := HK1.out; have := HJ3.out; have := HK3.out; omega⟩, ⟨zK BK428.out⟩, ⟨zW HB.out⟩⟩
          ·have c20b0 : decide (0 < (((rd_T75 (rd_L5 l0 x5_1) x8_3).f1.f3).length : Int)) = false := decide_eq_false c20
           have c20b1 : decide (0 < ((rd_T75 (rd_L5 l0 x5_1) x8_3).f1.f3).length) = false := decide_eq_false (by omega)
           clear c20
           have H' := Aside0.mk H
           clear H
           have p430 : 0 ≤ (x5_1 : Int) := zD
           have q430 : x5_1 < (l0.length : Int) := zD
           obtain ⟨ad430, A430_0, c430_0, e430, hx430_0, hl430_0, hi430_0⟩ := at_L5 HR0.out x5_1 p430 q430
           cases e430
           replace hx430_0 := zx HB hx430_0
           have HR430_0 := Aside0.mk hi430_0
           have HC430_0 := Aside0.mk hl430_0
           clear hi430_0 hl430_0
           replace p430 := eq_true p430
           replace q430 := eq_true q430
           try go_wp2
           replace BK428 := zA (blk_drew BK428.out)
           replace HB := zA (below_drew1 HB.out)
           have p431 : 0 ≤ (x5_1 : Int) := zD
           have q431 : x5_1 < (l0.length : Int) := zD
           obtain ⟨ad431, A431_0, c431_0, e431, hx431_0, hl431_0, hi431_0⟩ := at_L5 HR0.out x5_1 p431 q431
           have hw431_0 := hx431_0
           obtain rfl : ad430 = ad431 := (by injection e431)
           replace hx431_0 := zx HB hx431_0
           have HR431_0 := Aside0.mk hi431_0
           have HC431_0 := Aside0.mk hl431_0
           clear hi431_0 hl431_0
           replace p431 := eq_true p431
           replace q431 := eq_true q431
           have p432 : 0 ≤ (x8_3 : Int) := zD
           have q432 : x8_3 < ((rd_L5 l0 x5_1).length : Int) := zD
           obtain ⟨ad432, A432_4, c432_4, e432, hx432_0, hx432_1, hx432_2, hx432_3, hx432_4, hl432_4, hi432_4⟩ := at_T75 HR431_0.out x8_3 p432 q432
           have hw432_4 := hx432_4
           have hw432_3 := hx432_3
           have hw432_2 := hx432_2
           have hw432_1 := hx432_1
           have hw432_0 := hx432_0
           cases e432
           replace hx432_0 := zx HB hx432_0
           replace hx432_1 := zx HB hx432_1
           replace hx432_2 := zx HB hx432_2
           replace hx432_3 := zx HB hx432_3
           replace hx432_4 := zx HB hx432_4
           have HR432_4 := Aside0.mk hi432_4
           have HC432_4 := Aside0.mk hl432_4
           clear hi432_4 hl432_4
           replace p432 := eq_true p432
           replace q432 := eq_true q432
           refine start_ (n := 13) (S := fun w' => w'.cell? ⟨gb428, 0, none⟩ = some (.int .i64 a1_0) ∧ w'.cell? ⟨gb428, 1, none⟩ = some (.int .i64 a1_1) ∧ w'.cell? ⟨gb428, 2, none⟩ = some (.int .i64 a1_2) ∧ w'.cell? ⟨gb428, 3, none⟩ = some (.slice A1_3 l1_3.length c1_3) ∧ w'.cell? (ad430.add (x5_1).toNat) = some (.slice (some ad432) (rd_L5 l0 x5_1).length c431_0) ∧ w'.cell? (ad432.add ((x8_3).toNat * 5)) = some (.int .i64 ((rd_T75 (rd_L5 l0 x5_1) x8_3).f0)) ∧ w'.cell? ⟨(ad432.add ((x8_3).toNat * 5)).block, (ad432.add ((x8_3).toNat * 5)).off + 1, none⟩ = some (.int .i64 ((rd_T75 (rd_L5 l0 x5_1) x8_3).f1.f0)) ∧ w'.cell? ⟨(ad432.add ((x8_3).toNat * 5)).block, (ad432.add ((x8_3).toNat * 5)).off + 2, none⟩ = some (.int .i64 ((rd_T75 (rd_L5 l0 x5_1) x8_3).f1.f1)) ∧ w'.cell? ⟨(ad432.add ((x8_3).toNat * 5)).block, (ad432.add ((x8_3).toNat * 5)).off + 3, none⟩ = some (.int .i64 ((rd_T75 (rd_L5 l0 x5_1) x8_3).f1.f2)) ∧ w'.cell? ⟨(ad432.add ((x8_3).toNat * 5)).block, (ad432.add ((x8_3).toNat * 5)).off + 4, none⟩ = some (.slice A432_4 ((rd_T75 (rd_L5 l0 x5_1) x8_3).f1.f3).length c432_4)) (ds := []) (Array.replicate 13 false) (by kernel_rfl) rfl rfl ⟨(blk_cell BK428.out 0).trans rfl, (blk_cell BK428.out 1).trans rfl, (blk_cell BK428.out 2).trans rfl, (blk_cell BK428.out 3).trans rfl, ((HB.out.cell (World.block_lt_of_cell? w _ hw431_0)).trans hw431_0), ((HB.out.cell (World.block_lt_of_cell? w _ hw432_0)).trans hw432_0), ((HB.out.cell (World.block_lt_of_cell? w _ hw432_1)).trans hw432_1), ((HB.out.cell (World.block_lt_of_cell? w _ hw432_2)).trans hw432_2), ((HB.out.cell (World.block_lt_of_cell? w _ hw432_3)).trans hw432_3), ((HB.out.cell (World.block_lt_of_cell? w _ hw432_4)).trans hw432_4)⟩ (fun hHeld => ?_); refine with_tabW spec_InRange.tab9 spec_InRange.bits9 (fun HT_ HW_ => ?_)
           generalize wr.drew = w26 at BK428 HB HR431_0 HR432_4 hx431_0 hx432_0 hx432_1 hx432_2 hx432_3 hx432_4 hHeld ⊢
           refine zp 0 30 ?_
           refine zp 1 31 ?_
           refine zp 2 32 ?_
           refine zp 3 33 ?_
           refine zp 4 34 ?_
           refine zp 6 36 ?_
           refine zt 5 35 ?_
           refine zp 7 37 ?_
           refine zt 8 38 ?_
           refine zt 9 39 ?_
           refine zo 10 (some 40) fun K hK => ?_
           refine goes_ Tryz.func45 (by kernel_rfl) rfl #[.agg #[.int .i64 ((rd_T75 (rd_L5 l0 x5_1) x8_3).f0), .int .i64 ((rd_T75 (rd_L5 l0 x5_1) x8_3).f1.f0), .int .i64 ((rd_T75 (rd_L5 l0 x5_1) x8_3).f1.f1), .int .i64 ((rd_T75 (rd_L5 l0 x5_1) x8_3).f1.f2), .slice A432_4 ((rd_T75 (rd_L5 l0 x5_1) x8_3).f1.f3).length c432_4], .agg #[.int .i64 a1_0, .int .i64 a1_1, .int .i64 a1_2, .slice A1_3 l1_3.length c1_3]] (by rfl) rfl rfl zM ?_
           with_reducible refine (spec_CmpOk.calls k3 ((rd_T75 (rd_L5 l0 x5_1) x8_3).f0) ((rd_T75 (rd_L5 l0 x5_1) x8_3).f1.f0) ((rd_T75 (rd_L5 l0 x5_1) x8_3).f1.f1) ((rd_T75 (rd_L5 l0 x5_1) x8_3).f1.f2) _ _ ((rd_T75 (rd_L5 l0 x5_1) x8_3).f1.f3) a1_0 a1_1 a1_2 _ _ l1_3 t433 _ ?side1 ?side2 ?side3 ?side4 A15.out).mono ?_
           (case side1 => exact zC (Kd.C_below HR432_4.out HB.out))
           (case side2 => exact HC432_4.out)
           (case side3 => exact zC (Kd.C_below HR1_3.out HB.out))
           (case side4 => exact HC1_3.out)
           rintro e w27 ⟨rfl, hb⟩
           refine ⟨_, rfl, ?_⟩
           replace BK428 := zb BK428 hb
           replace HB := zh HB hb
           (try clear hb)
           refine hK.out _ _ ⟨(blk_cell BK428.out 0).trans rfl, (blk_cell BK428.out 1).trans rfl, (blk_cell BK428.out 2).trans rfl, (blk_cell BK428.out 3).trans rfl, ((HB.out.cell (World.block_lt_of_cell? w _ hw431_0)).trans hw431_0), ((HB.out.cell (World.block_lt_of_cell? w _ hw432_0)).trans hw432_0), ((HB.out.cell (World.block_lt_of_cell? w _ hw432_1)).trans hw432_1), ((HB.out.cell (World.block_lt_of_cell? w _ hw432_2)).trans hw432_2), ((HB.out.cell (World.block_lt_of_cell? w _ hw432_3)).trans hw432_3), ((HB.out.cell (World.block_lt_of_cell? w _ hw432_4)).trans hw432_4)⟩ (fun hHeld => ?_)
           clear hK K
           refine zn ?_
           refine zp 11 41 ?_
           refine zp 12 6 ?_
           refine done_ (done_of HT_.out (by kernel_rfl)) ?_
           try go_wp2
           replace BK428 := zA (blk_drew BK428.out)
           replace HB := zA (below_drew1 HB.out)
           have p434 : 0 ≤ (x5_1 : Int) := zD
           have q434 : x5_1 < (l0.length : Int) := zD
           obtain ⟨ad434, A434_0, c434_0, e434, hx434_0, hl434_0, hi434_0⟩ := at_L5 HR0.out x5_1 p434 q434
           have hw434_0 := hx434_0
           obtain rfl : ad430 = ad434 := (by injection e434)
           replace hx434_0 := zx HB hx434_0
           have HR434_0 := Aside0.mk hi434_0
           have HC434_0 := Aside0.mk hl434_0
           clear hi434_0 hl434_0
           replace p434 := eq_true p434
           replace q434 := eq_true q434
           have p435 : 0 ≤ (x8_3 : Int) := zD
           have q435 : x8_3 < ((rd_L5 l0 x5_1).length : Int) := zD
           obtain ⟨ad435, A435_4, c435_4, e435, hx435_0, hx435_1, hx435_2, hx435_3, hx435_4, hl435_4, hi435_4⟩ := at_T75 HR434_0.out x8_3 p435 q435
           have hw435_4 := hx435_4
           have hw435_3 := hx435_3
           have hw435_2 := hx435_2
           have hw435_1 := hx435_1
           have hw435_0 := hx435_0
           cases e435
           replace hx435_0 := zx HB hx435_0
           replace hx435_1 := zx HB hx435_1
           replace hx435_2 := zx HB hx435_2
           replace hx435_3 := zx HB hx435_3
           replace hx435_4 := zx HB hx435_4
           have HR435_4 := Aside0.mk hi435_4
           have HC435_4 := Aside0.mk hl435_4
           clear hi435_4 hl435_4
           replace p435 := eq_true p435
           replace q435 := eq_true q435
           refine start_ (n := 27) (S := fun w' => w'.cell? (ad430.add (x5_1).toNat) = some (.slice (some ad435) (rd_L5 l0 x5_1).length c434_0) ∧ w'.cell? (ad435.add ((x8_3).toNat * 5)) = some (.int .i64 ((rd_T75 (rd_L5 l0 x5_1) x8_3).f0)) ∧ w'.cell? ⟨(ad435.add ((x8_3).toNat * 5)).block, (ad435.add ((x8_3).toNat * 5)).off + 1, none⟩ = some (.int .i64 ((rd_T75 (rd_L5 l0 x5_1) x8_3).f1.f0)) ∧ w'.cell? ⟨(ad435.add ((x8_3).toNat * 5)).block, (ad435.add ((x8_3).toNat * 5)).off + 2, none⟩ = some (.int .i64 ((rd_T75 (rd_L5 l0 x5_1) x8_3).f1.f1)) ∧ w'.cell? ⟨(ad435.add ((x8_3).toNat * 5)).block, (ad435.add ((x8_3).toNat * 5)).off + 3, none⟩ = some (.int .i64 ((rd_T75 (rd_L5 l0 x5_1) x8_3).f1.f2)) ∧ w'.cell? ⟨(ad435.add ((x8_3).toNat * 5)).block, (ad435.add ((x8_3).toNat * 5)).off + 4, none⟩ = some (.slice A435_4 ((rd_T75 (rd_L5 l0 x5_1) x8_3).f1.f3).length c435_4)) (ds := []) (Array.replicate 27 false) (by kernel_rfl) rfl rfl ⟨((HB.out.cell (World.block_lt_of_cell? w _ hw434_0)).trans hw434_0), ((HB.out.cell (World.block_lt_of_cell? w _ hw435_0)).trans hw435_0), ((HB.out.cell (World.block_lt_of_cell? w _ hw435_1)).trans hw435_1), ((HB.out.cell (World.block_lt_of_cell? w _ hw435_2)).trans hw435_2), ((HB.out.cell (World.block_lt_of_cell? w _ hw435_3)).trans hw435_3), ((HB.out.cell (World.block_lt_of_cell? w _ hw435_4)).trans hw435_4)⟩ (fun hHeld => ?_); refine with_tabW spec_InRange.tab10 spec_InRange.bits10 (fun HT_ HW_ => ?_)
           generalize w27.drew = w28 at BK428 HB HR434_0 HR435_4 hx434_0 hx435_0 hx435_1 hx435_2 hx435_3 hx435_4 hHeld ⊢
           refine zp 0 42 ?_
           refine zp 1 43 ?_
           refine zp 2 44 ?_
           refine zp 3 45 ?_
           refine zp 4 46 ?_
           refine zp 6 48 ?_
           refine zt 5 47 ?_
           refine zp 7 49 ?_
           refine zp 8 50 ?_
           refine zp 9 51 ?_
           refine zt 10 52 ?_
           refine zp 11 53 ?_
           refine zp 12 54 ?_
           refine zp 13 55 ?_
           refine zu 14 56 ?_
           refine zu 15 57 ?_
           refine zu 16 58 ?_
           refine zu 17 59 ?_
           refine zu 18 60 ?_
           refine zu 19 61 ?_
           refine zu 20 62 ?_
           refine zu 21 63 ?_
           refine zu 22 64 ?_
           refine zu 23 65 ?_
           refine zp 24 66 ?_
           refine zp 25 67 ?_
           refine zp 26 7 ?_
           refine done_ (done_of HT_.out (by kernel_rfl)) ?_
           try go_wp2
           go_roundg k3
           case measure => have := HK1.out; have := HJ3.out; have := HK3.out; omega
           case rel => exact ⟨(t433), (false), (wrap64 (x8_3 + 1)), zS, zS, zS, H', ⟨by have := HK1.out; have := HJ3.out; have := HK3.out; omega⟩, ⟨zK BK428.out⟩, ⟨zW HB.out⟩⟩
        ·replace H := zB0 H
         rcases H with ⟨rfl, H⟩ | ⟨rfl, H⟩
         ·have H' := Aside0.mk H
          clear H
          have p430 : 0 ≤ (x5_1 : Int) := zD
          have q430 : x5_1 < (l0.length : Int) := zD
          obtain ⟨ad430, A430_0, c430_0, e430, hx430_0, hl430_0, hi430_0⟩ := at_L5 HR0.out x5_1 p430 q430
          cases e430
          replace hx430_0 := zx HB hx430_0
          have HR430_0 := Aside0.mk hi430_0
          have HC430_0 := Aside0.mk hl430_0
          clear hi430_0 hl430_0
          replace p430 := eq_true p430
          replace q430 := eq_true q430
          try go_wp2
          replace BK428 := zA (blk_drew BK428.out)
          replace HB := zA (below_drew1 HB.out)
          refine start_ (n := 13) (S := fun w' => True) (ds := []) (Array.replicate 13 false) (by kernel_rfl) rfl rfl trivial (fun hHeld => ?_); refine with_tabW spec_InRange.tab9 spec_InRange.bits9 (fun HT_ HW_ => ?_)
          generalize wr.drew = w30 at BK428 HB hHeld ⊢
          refine zp 0 30 ?_
          refine zp 1 31 ?_
          refine zu 2 32 ?_
          refine zu 3 33 ?_
          refine zu 4 34 ?_
          refine zu 5 35 ?_
          refine zu 6 36 ?_
          refine zu 7 37 ?_
          refine zu 8 38 ?_
          refine zu 9 39 ?_
          refine zu 10 40 ?_
          refine zp 11 41 ?_
          refine zp 12 6 ?_
          refine done_ (done_of HT_.out (by kernel_rfl)) ?_
          try go_wp2
          replace BK428 := zA (blk_drew BK428.out)
          replace HB := zA (below_drew1 HB.out)
          refine start_ (n := 27) (S := fun w' => True) (ds := []) (Array.replicate 27 false) (by kernel_rfl) rfl rfl trivial (fun hHeld => ?_); refine with_tabW spec_InRange.tab10 spec_InRange.bits10 (fun HT_ HW_ => ?_)
          generalize w30.drew = w31 at BK428 HB hHeld ⊢
          refine zp 0 42 ?_
          refine zp 1 43 ?_
          refine zu 2 44 ?_
          refine zu 3 45 ?_
          refine zu 4 46 ?_
          refine zu 5 47 ?_
          refine zu 6 48 ?_
          refine zu 7 49 ?_
          refine zu 8 50 ?_
          refine zu 9 51 ?_
          refine zu 10 52 ?_
          refine zu 11 53 ?_
          refine zu 12 54 ?_
          refine zu 13 55 ?_
          refine zu 14 56 ?_
          refine zu 15 57 ?_
          refine zu 16 58 ?_
          refine zu 17 59 ?_
          refine zu 18 60 ?_
          refine zu 19 61 ?_
          refine zu 20 62 ?_
          refine zu 21 63 ?_
          refine zu 22 64 ?_
          refine zu 23 65 ?_
          refine zu 24 66 ?_
          refine zp 25 67 ?_
          refine zp 26 7 ?_
          refine done_ (done_of HT_.out (by kernel_rfl)) ?_
          try go_wp2
          go_roundg k3
          case measure => have := HK1.out; have := HJ3.out; have := HK3.out; omega
          case rel => exact ⟨(false), (true), (wrap64 (x8_3 + 1)), zS, zS, zS, H', ⟨by have := HK1.out; have := HJ3.out; have := HK3.out; omega⟩, ⟨zK BK428.out⟩, ⟨zW HB.out⟩⟩
         ·replace H := zD0 H
          obtain ⟨c32b0, H⟩ := H
          replace H := zI1 H
          rcases H with ⟨c33, H⟩ | ⟨c33, H⟩
          ·have c33b0 : decide (0 < (((rd_T75 (rd_L5 l0 x5_1) x8_3).f1.f3).length : Int)) = true := decide_eq_true c33
           have c33b1 : decide (0 < ((rd_T75 (rd_L5 l0 x5_1) x8_3).f1.f3).length) = true := decide_eq_true (by omega)
           clear c33
           replace H := zj H
           obtain ⟨t443, A34, H⟩ := H
           try dsimp only at H
           have H' := Aside0.mk H
           clear H
           have p430 : 0 ≤ (x5_1 : Int) := zD
           have q430 : x5_1 < (l0.length : Int) := zD
           obtain ⟨ad430, A430_0, c430_0, e430, hx430_0, hl430_0, hi430_0⟩ := at_L5 HR0.out x5_1 p430 q430
           cases e430
           replace hx430_0 := zx HB hx430_0
           have HR430_0 := Aside0.mk hi430_0
           have HC430_0 := Aside0.mk hl430_0
           clear hi430_0 hl430_0
           replace p430 := eq_true p430
           replace q430 := eq_true q430
           try go_wp2
           replace BK428 := zA (blk_drew BK428.out)
           replace HB := zA (below_drew1 HB.out)
           refine start_ (n := 13) (S := fun w' => True) (ds := []) (Array.replicate 13 false) (by kernel_rfl) rfl rfl trivial (fun hHeld => ?_); refine with_tabW spec_InRange.tab9 spec_InRange.bits9 (fun HT_ HW_ => ?_)
           generalize wr.drew = w35 at BK428 HB hHeld ⊢
           refine zp 0 30 ?_
           refine zp 1 31 ?_
           refine zu 2 32 ?_
           refine zu 3 33 ?_
           refine zu 4 34 ?_
           refine zu 5 35 ?_
           refine zu 6 36 ?_
           refine zu 7 37 ?_
           refine zu 8 38 ?_
           refine zu 9 39 ?_
           refine zu 10 40 ?_
           refine zp 11 41 ?_
           refine zp 12 6 ?_
           refine done_ (done_of HT_.out (by kernel_rfl)) ?_
           try go_wp2
           replace BK428 := zA (blk_drew BK428.out)
           replace HB := zA (below_drew1 HB.out)
           have p439 : 0 ≤ (x5_1 : Int) := zD
           have q439 : x5_1 < (l0.length : Int) := zD
           obtain ⟨ad439, A439_0, c439_0, e439, hx439_0, hl439_0, hi439_0⟩ := at_L5 HR0.out x5_1 p439 q439
           have hw439_0 := hx439_0
           obtain rfl : ad430 = ad439 := (by injection e439)
           replace hx439_0 := zx HB hx439_0
           have HR439_0 := Aside0.mk hi439_0
           have HC439_0 := Aside0.mk hl439_0
           clear hi439_0 hl439_0
           replace p439 := eq_true p439
           replace q439 := eq_true q439
           have p440 : 0 ≤ (x8_3 : Int) := zD
           have q440 : x8_3 < ((rd_L5 l0 x5_1).length : Int) := zD
           obtain ⟨ad440, A440_4, c440_4, e440, hx440_0, hx440_1, hx440_2, hx440_3, hx440_4, hl440_4, hi440_4⟩ := at_T75 HR439_0.out x8_3 p440 q440
           have hw440_4 := hx440_4
           have hw440_3 := hx440_3
           have hw440_2 := hx440_2
           have hw440_1 := hx440_1
           have hw440_0 := hx440_0
           cases e440
           replace hx440_0 := zx HB hx440_0
           replace hx440_1 := zx HB hx440_1
           replace hx440_2 := zx HB hx440_2
           replace hx440_3 := zx HB hx440_3
           replace hx440_4 := zx HB hx440_4
           have HR440_4 := Aside0.mk hi440_4
           have HC440_4 := Aside0.mk hl440_4
           clear hi440_4 hl440_4
           replace p440 := eq_true p440
           replace q440 := eq_true q440
           have p441 : 0 ≤ (x5_1 : Int) := zD
           have q441 : x5_1 < (l0.length : Int) := zD
           obtain ⟨ad441, A441_0, c441_0, e441, hx441_0, hl441_0, hi441_0⟩ := at_L5 HR0.out x5_1 p441 q441
           have hw441_0 := hx441_0
           obtain rfl : ad430 = ad441 := (by injection e441)
           replace hx441_0 := zx HB hx441_0
           have HR441_0 := Aside0.mk hi441_0
           have HC441_0 := Aside0.mk hl441_0
           clear hi441_0 hl441_0
           replace p441 := eq_true p441
           replace q441 := eq_true q441
           have ea_ := Option.some.inj (hx439_0.symm.trans hx441_0)
           injection ea_ with ea_ en_ ec_
           subst ea_
           subst ec_
           clear en_
           have p442 : 0 ≤ (x8_3 : Int) := zD
           have q442 : x8_3 < ((rd_L5 l0 x5_1).length : Int) := zD
           obtain ⟨ad442, A442_4, c442_4, e442, hx442_0, hx442_1, hx442_2, hx442_3, hx442_4, hl442_4, hi442_4⟩ := at_T75 HR441_0.out x8_3 p442 q442
           have hw442_4 := hx442_4
           have hw442_3 := hx442_3
           have hw442_2 := hx442_2
           have hw442_1 := hx442_1
           have hw442_0 := hx442_0
           cases e442
           replace hx442_0 := zx HB hx442_0
           replace hx442_1 := zx HB hx442_1
           replace hx442_2 := zx HB hx442_2
           replace hx442_3 := zx HB hx442_3
           replace hx442_4 := zx HB hx442_4
           have HR442_4 := Aside0.mk hi442_4
           have HC442_4 := Aside0.mk hl442_4
           clear hi442_4 hl442_4
           have ea_ := Option.some.inj (hx440_4.symm.trans hx442_4)
           injection ea_ with ea_ en_ ec_
           subst ea_
           subst ec_
           clear en_
           replace p442 := eq_true p442
           replace q442 := eq_true q442
           refine start_ (n := 27) (S := fun w' => w'.cell? ⟨gb428, 0, none⟩ = some (.int .i64 a1_0) ∧ w'.cell? ⟨gb428, 1, none⟩ = some (.int .i64 a1_1) ∧ w'.cell? ⟨gb428, 2, none⟩ = some (.int .i64 a1_2) ∧ w'.cell? ⟨gb428, 3, none⟩ = some (.slice A1_3 l1_3.length c1_3) ∧ w'.cell? (ad430.add (x5_1).toNat) = some (.slice (some ad440) (rd_L5 l0 x5_1).length c439_0) ∧ w'.cell? (ad440.add ((x8_3).toNat * 5)) = some (.int .i64 ((rd_T75 (rd_L5 l0 x5_1) x8_3).f0)) ∧ w'.cell? ⟨(ad440.add ((x8_3).toNat * 5)).block, (ad440.add ((x8_3).toNat * 5)).off + 1, none⟩ = some (.int .i64 ((rd_T75 (rd_L5 l0 x5_1) x8_3).f1.f0)) ∧ w'.cell? ⟨(ad440.add ((x8_3).toNat * 5)).block, (ad440.add ((x8_3).toNat * 5)).off + 2, none⟩ = some (.int .i64 ((rd_T75 (rd_L5 l0 x5_1) x8_3).f1.f1)) ∧ w'.cell? ⟨(ad440.add ((x8_3).toNat * 5)).block, (ad440.add ((x8_3).toNat * 5)).off + 3, none⟩ = some (.int .i64 ((rd_T75 (rd_L5 l0 x5_1) x8_3).f1.f2)) ∧ w'.cell? ⟨(ad440.add ((x8_3).toNat * 5)).block, (ad440.add ((x8_3).toNat * 5)).off + 4, none⟩ = some (.slice A440_4 ((rd_T75 (rd_L5 l0 x5_1) x8_3).f1.f3).length c440_4) ∧ w'.cell? (ad430.add (x5_1).toNat) = some (.slice (some ad440) (rd_L5 l0 x5_1).length c439_0) ∧ w'.cell? (ad440.add ((x8_3).toNat * 5)) = some (.int .i64 ((rd_T75 (rd_L5 l0 x5_1) x8_3).f0)) ∧ w'.cell? ⟨(ad440.add ((x8_3).toNat * 5)).block, (ad440.add ((x8_3).toNat * 5)).off + 1, none⟩ = some (.int .i64 ((rd_T75 (rd_L5 l0 x5_1) x8_3).f1.f0)) ∧ w'.cell? ⟨(ad440.add ((x8_3).toNat * 5)).block, (ad440.add ((x8_3).toNat * 5)).off + 2, none⟩ = some (.int .i64 ((rd_T75 (rd_L5 l0 x5_1) x8_3).f1.f1)) ∧ w'.cell? ⟨(ad440.add ((x8_3).toNat * 5)).block, (ad440.add ((x8_3).toNat * 5)).off + 3, none⟩ = some (.int .i64 ((rd_T75 (rd_L5 l0 x5_1) x8_3).f1.f2)) ∧ w'.cell? ⟨(ad440.add ((x8_3).toNat * 5)).block, (ad440.add ((x8_3).toNat * 5)).off + 4, none⟩ = some (.slice A440_4 ((rd_T75 (rd_L5 l0 x5_1) x8_3).f1.f3).length c440_4)) (ds := []) (Array.replicate 27 false) (by kernel_rfl) rfl rfl ⟨(blk_cell BK428.out 0).trans rfl, (blk_cell BK428.out 1).trans rfl, (blk_cell BK428.out 2).trans rfl, (blk_cell BK428.out 3).trans rfl, ((HB.out.cell (World.block_lt_of_cell? w _ hw439_0)).trans hw439_0), ((HB.out.cell (World.block_lt_of_cell? w _ hw440_0)).trans hw440_0), ((HB.out.cell (World.block_lt_of_cell? w _ hw440_1)).trans hw440_1), ((HB.out.cell (World.block_lt_of_cell? w _ hw440_2)).trans hw440_2), ((HB.out.cell (World.block_lt_of_cell? w _ hw440_3)).trans hw440_3), ((HB.out.cell (World.block_lt_of_cell? w _ hw440_4)).trans hw440_4), ((HB.out.cell (World.block_lt_of_cell? w _ hw441_0)).trans hw441_0), ((HB.out.cell (World.block_lt_of_cell? w _ hw442_0)).trans hw442_0), ((HB.out.cell (World.block_lt_of_cell? w _ hw442_1)).trans hw442_1), ((HB.out.cell (World.block_lt_of_cell? w _ hw442_2)).trans hw442_2), ((HB.out.cell (World.block_lt_of_cell? w _ hw442_3)).trans hw442_3), ((HB.out.cell (World.block_lt_of_cell? w _ hw442_4)).trans hw442_4)⟩ (fun hHeld => ?_); refine with_tabW spec_InRange.tab10 spec_InRange.bits10 (fun HT_ HW_ => ?_)
           generalize w35.drew = w36 at BK428 HB HR439_0 HR440_4 HR441_0 HR442_4 hx439_0 hx440_0 hx440_1 hx440_2 hx440_3 hx440_4 hx441_0 hx442_0 hx442_1 hx442_2 hx442_3 hx442_4 hHeld ⊢
           refine zp 0 42 ?_
           refine zp 1 43 ?_
           refine zp 2 44 ?_
           refine zp 3 45 ?_
           refine zp 4 46 ?_
           refine zp 6 48 ?_
           refine zt 5 47 ?_
           refine zp 7 49 ?_
           refine zp 8 50 ?_
           refine zp 9 51 ?_
           refine zt 10 52 ?_
           refine zp 11 53 ?_
           refine zp 12 54 ?_
           refine zp 13 55 ?_
           refine zp 14 56 ?_
           refine zp 15 57 ?_
           refine zp 16 58 ?_
           refine zp 18 60 ?_
           refine zt 17 59 ?_
           refine zp 19 61 ?_
           refine zp 20 62 ?_
           refine zt 21 63 ?_
           refine zt 22 64 ?_
           refine zo 23 (some 65) fun K hK => ?_
           refine goes_ Tryz.func97 (by kernel_rfl) rfl #[.agg #[.int .i64 ((rd_T75 (rd_L5 l0 x5_1) x8_3).f1.f0), .int .i64 ((rd_T75 (rd_L5 l0 x5_1) x8_3).f1.f1), .int .i64 ((rd_T75 (rd_L5 l0 x5_1) x8_3).f1.f2), .slice A440_4 ((rd_T75 (rd_L5 l0 x5_1) x8_3).f1.f3).length c440_4], .agg #[.int .i64 a1_0, .int .i64 a1_1, .int .i64 a1_2, .slice A1_3 l1_3.length c1_3]] (by rfl) rfl rfl zM ?_
           with_reducible refine (spec_l3SameCore.calls ((rd_T75 (rd_L5 l0 x5_1) x8_3).f1.f0) ((rd_T75 (rd_L5 l0 x5_1) x8_3).f1.f1) ((rd_T75 (rd_L5 l0 x5_1) x8_3).f1.f2) _ _ ((rd_T75 (rd_L5 l0 x5_1) x8_3).f1.f3) a1_0 a1_1 a1_2 _ _ l1_3 t443 _ ?side1 ?side2 ?side3 ?side4 A34.out).mono ?_
           (case side1 => exact zC (Kd.C_below HR442_4.out HB.out))
           (case side2 => exact HC442_4.out)
           (case side3 => exact zC (Kd.C_below HR1_3.out HB.out))
           (case side4 => exact HC1_3.out)
           rintro e w37 ⟨rfl, hb⟩
           refine ⟨_, rfl, ?_⟩
           replace BK428 := zb BK428 hb
           replace HB := zh HB hb
           (try clear hb)
           refine hK.out _ _ ⟨(blk_cell BK428.out 0).trans rfl, (blk_cell BK428.out 1).trans rfl, (blk_cell BK428.out 2).trans rfl, (blk_cell BK428.out 3).trans rfl, ((HB.out.cell (World.block_lt_of_cell? w _ hw439_0)).trans hw439_0), ((HB.out.cell (World.block_lt_of_cell? w _ hw440_0)).trans hw440_0), ((HB.out.cell (World.block_lt_of_cell? w _ hw440_1)).trans hw440_1), ((HB.out.cell (World.block_lt_of_cell? w _ hw440_2)).trans hw440_2), ((HB.out.cell (World.block_lt_of_cell? w _ hw440_3)).trans hw440_3), ((HB.out.cell (World.block_lt_of_cell? w _ hw440_4)).trans hw440_4), ((HB.out.cell (World.block_lt_of_cell? w _ hw441_0)).trans hw441_0), ((HB.out.cell (World.block_lt_of_cell? w _ hw442_0)).trans hw442_0), ((HB.out.cell (World.block_lt_of_cell? w _ hw442_1)).trans hw442_1), ((HB.out.cell (World.block_lt_of_cell? w _ hw442_2)).trans hw442_2), ((HB.out.cell (World.block_lt_of_cell? w _ hw442_3)).trans hw442_3), ((HB.out.cell (World.block_lt_of_cell? w _ hw442_4)).trans hw442_4)⟩ (fun hHeld => ?_)
           clear hK K
           refine zn ?_
           refine zp 24 66 ?_
           refine zp 25 67 ?_
           refine zp 26 7 ?_
           refine done_ (done_of HT_.out (by kernel_rfl)) ?_
           try go_wp2
           go_roundg k3
           case measure => have := HK1.out; have := HJ3.out; have := HK3.out; omega
           case rel => exact ⟨(false), (t443), (wrap64 (x8_3 + 1)), zS, zS, zS, H', ⟨by have := HK1.out; have := HJ3.out; have := HK3.out; omega⟩, ⟨zK BK428.out⟩, ⟨zW HB.out⟩⟩
          ·have c33b0 : decide (0 < (((rd_T75 (rd_L5 l0 x5_1) x8_3).f1.f3).length : Int)) = false := decide_eq_false c33
           have c33b1 : decide (0 < ((rd_T75 (rd_L5 l0 x5_1) x8_3).f1.f3).length) = false := decide_eq_false (by omega)
           clear c33
           have H' := Aside0.mk H
           clear H
           have p430 : 0 ≤ (x5_1 : Int) := zD
           have q430 : x5_1 < (l0.length : Int) := zD
           obtain ⟨ad430, A430_0, c430_0, e430, hx430_0, hl430_0, hi430_0⟩ := at_L5 HR0.out x5_1 p430 q430
           cases e430
           replace hx430_0 := zx HB hx430_0
           have HR430_0 := Aside0.mk hi430_0
           have HC430_0 := Aside0.mk hl430_0
           clear hi430_0 hl430_0
           replace p430 := eq_true p430
           replace q430 := eq_true q430
           try go_wp2
           replace BK428 := zA (blk_drew BK428.out)
           replace HB := zA (below_drew1 HB.out)
           refine start_ (n := 13) (S := fun w' => True) (ds := []) (Array.replicate 13 false) (by kernel_rfl) rfl rfl trivial (fun hHeld => ?_); refine with_tabW spec_InRange.tab9 spec_InRange.bits9 (fun HT_ HW_ => ?_)
           generalize wr.drew = w38 at BK428 HB hHeld ⊢
           refine zp 0 30 ?_
           refine zp 1 31 ?_
           refine zu 2 32 ?_
           refine zu 3 33 ?_
           refine zu 4 34 ?_
           refine zu 5 35 ?_
           refine zu 6 36 ?_
           refine zu 7 37 ?_
           refine zu 8 38 ?_
           refine zu 9 39 ?_
           refine zu 10 40 ?_
           refine zp 11 41 ?_
           refine zp 12 6 ?_
           refine done_ (done_of HT_.out (by kernel_rfl)) ?_
           try go_wp2
           replace BK428 := zA (blk_drew BK428.out)
           replace HB := zA (below_drew1 HB.out)
           have p439 : 0 ≤ (x5_1 : Int) := zD
           have q439 : x5_1 < (l0.length : Int) := zD
           obtain ⟨ad439, A439_0, c439_0, e439, hx439_0, hl439_0, hi439_0⟩ := at_L5 HR0.out x5_1 p439 q439
           have hw439_0 := hx439_0
           obtain rfl : ad430 = ad439 := (by injection e439)
           replace hx439_0 := zx HB hx439_0
           have HR439_0 := Aside0.mk hi439_0
           have HC439_0 := Aside0.mk hl439_0
           clear hi439_0 hl439_0
           replace p439 := eq_true p439
           replace q439 := eq_true q439
           have p440 : 0 ≤ (x8_3 : Int) := zD
           have q440 : x8_3 < ((rd_L5 l0 x5_1).length : Int) := zD
           obtain ⟨ad440, A440_4, c440_4, e440, hx440_0, hx440_1, hx440_2, hx440_3, hx440_4, hl440_4, hi440_4⟩ := at_T75 HR439_0.out x8_3 p440 q440
           have hw440_4 := hx440_4
           have hw440_3 := hx440_3
           have hw440_2 := hx440_2
           have hw440_1 := hx440_1
           have hw440_0 := hx440_0
           cases e440
           replace hx440_0 := zx HB hx440_0
           replace hx440_1 := zx HB hx440_1
           replace hx440_2 := zx HB hx440_2
           replace hx440_3 := zx HB hx440_3
           replace hx440_4 := zx HB hx440_4
           have HR440_4 := Aside0.mk hi440_4
           have HC440_4 := Aside0.mk hl440_4
           clear hi440_4 hl440_4
           replace p440 := eq_true p440
           replace q440 := eq_true q440
           refine start_ (n := 27) (S := fun w' => w'.cell? (ad430.add (x5_1).toNat) = some (.slice (some ad440) (rd_L5 l0 x5_1).length c439_0) ∧ w'.cell? (ad440.add ((x8_3).toNat * 5)) = some (.int .i64 ((rd_T75 (rd_L5 l0 x5_1) x8_3).f0)) ∧ w'.cell? ⟨(ad440.add ((x8_3).toNat * 5)).block, (ad440.add ((x8_3).toNat * 5)).off + 1, none⟩ = some (.int .i64 ((rd_T75 (rd_L5 l0 x5_1) x8_3).f1.f0)) ∧ w'.cell? ⟨(ad440.add ((x8_3).toNat * 5)).block, (ad440.add ((x8_3).toNat * 5)).off + 2, none⟩ = some (.int .i64 ((rd_T75 (rd_L5 l0 x5_1) x8_3).f1.f1)) ∧ w'.cell? ⟨(ad440.add ((x8_3).toNat * 5)).block, (ad440.add ((x8_3).toNat * 5)).off + 3, none⟩ = some (.int .i64 ((rd_T75 (rd_L5 l0 x5_1) x8_3).f1.f2)) ∧ w'.cell? ⟨(ad440.add ((x8_3).toNat * 5)).block, (ad440.add ((x8_3).toNat * 5)).off + 4, none⟩ = some (.slice A440_4 ((rd_T75 (rd_L5 l0 x5_1) x8_3).f1.f3).length c440_4)) (ds := []) (Array.replicate 27 false) (by kernel_rfl) rfl rfl ⟨((HB.out.cell (World.block_lt_of_cell? w _ hw439_0)).trans hw439_0), ((HB.out.cell (World.block_lt_of_cell? w _ hw440_0)).trans hw440_0), ((HB.out.cell (World.block_lt_of_cell? w _ hw440_1)).trans hw440_1), ((HB.out.cell (World.block_lt_of_cell? w _ hw440_2)).trans hw440_2), ((HB.out.cell (World.block_lt_of_cell? w _ hw440_3)).trans hw440_3), ((HB.out.cell (World.block_lt_of_cell? w _ hw440_4)).trans hw440_4)⟩ (fun hHeld => ?_); refine with_tabW spec_InRange.tab10 spec_InRange.bits10 (fun HT_ HW_ => ?_)
           generalize w38.drew = w39 at BK428 HB HR439_0 HR440_4 hx439_0 hx440_0 hx440_1 hx440_2 hx440_3 hx440_4 hHeld ⊢
           refine zp 0 42 ?_
           refine zp 1 43 ?_
           refine zp 2 44 ?_
           refine zp 3 45 ?_
           refine zp 4 46 ?_
           refine zp 6 48 ?_
           refine zt 5 47 ?_
           refine zp 7 49 ?_
           refine zp 8 50 ?_
           refine zp 9 51 ?_
           refine zt 10 52 ?_
           refine zp 11 53 ?_
           refine zp 12 54 ?_
           refine zp 13 55 ?_
           refine zu 14 56 ?_
           refine zu 15 57 ?_
           refine zu 16 58 ?_
           refine zu 17 59 ?_
           refine zu 18 60 ?_
           refine zu 19 61 ?_
           refine zu 20 62 ?_
           refine zu 21 63 ?_
           refine zu 22 64 ?_
           refine zu 23 65 ?_
           refine zp 24 66 ?_
           refine zp 25 67 ?_
           refine zp 26 7 ?_
           refine done_ (done_of HT_.out (by kernel_rfl)) ?_
           try go_wp2
           go_roundg k3
           case measure => have := HK1.out; have := HJ3.out; have := HK3.out; omega
           case rel => exact ⟨(false), (false), (wrap64 (x8_3 + 1)), zS, zS, zS, H', ⟨by have := HK1.out; have := HJ3.out; have := HK3.out; omega⟩, ⟨zK BK428.out⟩, ⟨zW HB.out⟩⟩
       ·replace H := zB0 H
        rcases H with ⟨rfl, H⟩ | ⟨rfl, H⟩
        ·replace H := zB0 H
         rcases H with ⟨rfl, H⟩ | ⟨rfl, H⟩
         ·obtain rfl := Option.some.inj H
          have p430 : 0 ≤ (x5_1 : Int) := zD
          have q430 : x5_1 < (l0.length : Int) := zD
          obtain ⟨ad430, A430_0, c430_0, e430, hx430_0, hl430_0, hi430_0⟩ := at_L5 HR0.out x5_1 p430 q430
          cases e430
          replace hx430_0 := zx HB hx430_0
          have HR430_0 := Aside0.mk hi430_0
          have HC430_0 := Aside0.mk hl430_0
          clear hi430_0 hl430_0
          replace p430 := eq_true p430
          replace q430 := eq_true q430
          go_wp2
          go_ret
          exact ⟨zE, zW HB.out⟩
         ·have H' := Aside0.mk H
          clear H
          have p430 : 0 ≤ (x5_1 : Int) := zD
          have q430 : x5_1 < (l0.length : Int) := zD
          obtain ⟨ad430, A430_0, c430_0, e430, hx430_0, hl430_0, hi430_0⟩ := at_L5 HR0.out x5_1 p430 q430
          cases e430
          replace hx430_0 := zx HB hx430_0
          have HR430_0 := Aside0.mk hi430_0
          have HC430_0 := Aside0.mk hl430_0
          clear hi430_0 hl430_0
          replace p430 := eq_true p430
          replace q430 := eq_true q430
          go_wp2
          go_roundg k3
          case measure => have := HK1.out; have := HJ3.out; have := HK3.out; omega
          case rel => exact ⟨(wrap64 (x5_1 + 1)), zS, H', ⟨by have := HK1.out; have := HJ3.out; have := HK3.out; omega⟩, ⟨zK BK428.out⟩, ⟨zW HB.out⟩⟩
        ·have H' := Aside0.mk H
         clear H
         have p430 : 0 ≤ (x5_1 : Int) := zD
         have q430 : x5_1 < (l0.length : Int) := zD
         obtain ⟨ad430, A430_0, c430_0, e430, hx430_0, hl430_0, hi430_0⟩ := at_L5 HR0.out x5_1 p430 q430
         cases e430
         replace hx430_0 := zx HB hx430_0
         have HR430_0 := Aside0.mk hi430_0
         have HC430_0 := Aside0.mk hl430_0
         clear hi430_0 hl430_0
         replace p430 := eq_true p430
         replace q430 := eq_true q430
         go_wp2
         go_roundg k3
         case measure => have := HK1.out; have := HJ3.out; have := HK3.out; omega
         case rel => exact ⟨(wrap64 (x5_1 + 1)), zS, H', ⟨by have := HK1.out; have := HJ3.out; have := HK3.out; omega⟩, ⟨zK BK428.out⟩, ⟨zW HB.out⟩⟩
end Go.Proofs.YtpcdhoeoefoeoaaGreatDoor.PGA
