/- The walks of the functions that these laws reach, and what each comes to: printed by this session's program. -/
import Derived.Test.YtpcdhoeoefoeoaaGreatDoorZGAPGAx0
import Derived.Test.YtpcdhoeoefoeoaaGreatDoorZGASays
namespace Go.Proofs.YtpcdhoeoefoeoaaGreatDoor.PGA
open Go.RowKit YtpcdhoeoefoeoaaGreatDoorW.PrintWords YtpcdhoeoefoeoaaGreatDoorW.PrintLast YtpcdhoeoefoeoaaGreatDoorW.PrintMore
attribute [local go_sem high] Mine.str_gtr Mine.str_leq Mine.str_geq
attribute [local go_sem] max2_int min2_int max_two min_two max_three min_three max_four min_four   -- for this text's walks alone
set_option linter.unusedVariables false
set_option maxHeartbeats 8000000
set_option maxRecDepth 100000
set_option linter.unusedSimpArgs false
/-! ### impl_caret: function 193 -/
def impl_caret.j0 : Nat → Int → Bool → Int → Int → Int → List ByteArray → Option (Int × Int × Int × List ByteArray)
 | 0, _, _, _, _, _, _ => none
 | k + 1, x1, x5, x495000, x495001, x495002, x495003 => if x5 = true then (some (wrap64 (x495000 + 1), 0, 0, ([] : List ByteArray))) else (if x495001 = 0 then (if x1 = 2 then (some (0, wrap64 (x495001 + 1), 0, ([] : List ByteArray))) else (some (0, 0, wrap64 (x495002 + 1), ([] : List ByteArray)))) else (some (0, wrap64 (x495001 + 1), 0, ([] : List ByteArray))))
def impl_caret.f (k : Nat) (a0_0 a0_1 a0_2 : Int) (l0_3 : List ByteArray) (a1 : Int) : Option (Int × Int × Int × List ByteArray) := if a0_0 = 0 then (impl_caret.j0 k a1 (a1 == 1) a0_0 a0_1 a0_2 l0_3) else (impl_caret.j0 k a1 true a0_0 a0_1 a0_2 l0_3)
theorem impl_caret.calls (k : Nat) (a0_0 a0_1 a0_2 : Int) (A0_3 : Option Addr) (c0_3 : Nat) (l0_3 : List ByteArray) (a1 r1 r2 r3 : Int) (r4 : List ByteArray) (w : World) (hr0_3 : Kd.C Kd.string w A0_3 l0_3.length l0_3) (hc0_3 : l0_3.length ≤ c0_3) (h : impl_caret.f k a0_0 a0_1 a0_2 l0_3 a1 = some (r1, r2, r3, r4)) :
  Calls Tryz.prog 193 #[.agg #[.int .i64 a0_0, .int .i64 a0_1, .int .i64 a0_2, .slice A0_3 l0_3.length c0_3], .int .i64 a1] w fun e w' => ∃ v3_ : Value, e = .returned (.agg #[.int .i64 r1, .int .i64 r2, .int .i64 r3, v3_]) ∧ Kd.R Kd.string 9 w' w.heap.size (fun _ => True) v3_ r4 ∧ Below w.heap.size w w' := by
 have hu32 := Tryz.underlying32
 have HR0_3 := Aside0.mk hr0_3
 have HC0_3 := Aside0.mk hc0_3
 clear hr0_3 hc0_3
 have HB := zA (Below.refl w.heap.size w)
 unfold impl_caret.f at h
 have H := h
 clear h
 have HC3 := Aside0.mk H
 clear H
 go_enter Tryz.func193, Tryz.ntmps193
 go_upto_region 1 with (first | ((with_reducible refine zd 2 ?_); refine ze 2 32 #[.int .i64 a0_0, .int .i64 a0_1, .int .i64 a0_2, .slice A0_3 l0_3.length c0_3] ?_; intro gb494 hg w4 hbox hb; have BK494 := zA (hbox); have GW494 := zi HB hg; have GE494 := zi HB hg; replace HB := zA (below_step (zB) hb); clear hb hbox hg) | ((with_reducible refine zd 4 ?_); refine ze 4 32 #[.int .i64 0, .int .i64 0, .int .i64 0, .slice none 0 0] ?_; intro gb495 hg w5 hbox hb; have BK495 := zA (hbox); have GW495 := zi HB hg; have GE495 := zi HB hg; replace HB := zh HB hb; have NB494_495 := zA (zL hg (zK BK494.out)); have NB495_494 := zA (zJ hg (zK BK494.out)); replace BK494 := zb BK494 hb; clear hb hbox hg))
 (try simp only [Act.put, zT])
 go_cut [5] (fun v5 wc => ∃ (kq : Nat) (x5_2 : Bool), v5 = .bool x5_2 ∧ Aside0 (impl_caret.j0 kq a1 x5_2 a0_0 a0_1 a0_2 l0_3 = some (r1, r2, r3, r4)) ∧ Aside0 (kq ≤ k) ∧ Aside0 (wc.heap[gb494]? = some (.cells #[.int .i64 a0_0, .int .i64 a0_1, .int .i64 a0_2, (.slice A0_3 l0_3.length c0_3)] 32 (0, 0))) ∧ Aside0 (wc.heap[gb495]? = some (.cells #[.int .i64 0, .int .i64 0, .int .i64 0, (.slice none 0 0)] 32 (0, 0))) ∧ Aside0 (Below w.heap.size w wc))
 case first =>
  have H := HC3.out
  clear HC3
  replace H := zI1 H
  rcases H with ⟨c6, H⟩ | ⟨c6, H⟩
  ·have c6b0 := beq_iff_eq.mpr c6
   have c6b1 := bne_eq_false_iff_eq.mpr c6
   clear c6
   (first | rw [c6b0] | (simp only [i64_w, i32_w]; rw [c6b0]) | skip)
   have H' := Aside0.mk H
   clear H
   have hnb7 := NB494_495.out
   have hnc7 := NB495_494.out
   obtain ⟨hcz8_0, hcz8_1, hcz8_2, hcz8_3, hfz8_0, hfz8_1, hfz8_2, hfz8_3⟩ := ze4 BK494.out
   go_wp2
   go_meet
   case rel => exact ⟨_, ((a1 == 1)), zS, (by first | exact H' | (subst_vars; exact H')), ⟨by first | omega | exact Nat.le_refl _⟩, ⟨zK BK494.out⟩, ⟨zK BK495.out⟩, ⟨zW HB.out⟩⟩
  ·have c6b0 := beq_eq_false_iff_ne.mpr c6
   have c6b1 := bne_iff_ne.mpr c6
   (first | rw [c6b0] | (simp only [i64_w, i32_w]; rw [c6b0]) | skip)
   have H' := Aside0.mk H
   clear H
   have hnb9 := NB494_495.out
   have hnc9 := NB495_494.out
   obtain ⟨hcz10_0, hcz10_1, hcz10_2, hcz10_3, hfz10_0, hfz10_1, hfz10_2, hfz10_3⟩ := ze4 BK494.out
   go_wp2
   go_meet
   case rel => exact ⟨_, (true), zS, (by first | exact H' | (subst_vars; exact H')), ⟨by first | omega | exact Nat.le_refl _⟩, ⟨zK BK494.out⟩, ⟨zK BK495.out⟩, ⟨zW HB.out⟩⟩
 case rest =>
  clear HC3
  try clear c1
  try clear p2
  try clear c6
  try clear c6b0
  try clear c6b1
  try clear c7
  try clear c9
  try clear hcz10_0 hcz10_1 hcz10_2 hcz10_3 hfz10_0 hfz10_1 hfz10_2 hfz10_3
  try clear hcz8_0 hcz8_1 hcz8_2 hcz8_3 hfz8_0 hfz8_1 hfz8_2 hfz8_3
  obtain ⟨kq, x5_2, rfl, HA, HJ2, BK494, BK495, HB⟩ := hcut
  cases kq with
  | zero => exact absurd HA.out (by simp [impl_caret.j0])
  | succ kj2 =>
   have H := HA.out
   clear HA
   simp only [impl_caret.j0] at H
   replace H := zB0 H
   rcases H with ⟨rfl, H⟩ | ⟨rfl, H⟩
   ·simp only [Option.some.injEq, Prod.mk.injEq] at H
    obtain ⟨rfl, rfl, rfl, rfl⟩ := H
    have hnb12 := NB494_495.out
    have hnc12 := NB495_494.out
    obtain ⟨hcz13_0, hcz13_1, hcz13_2, hcz13_3, hfz13_0, hfz13_1, hfz13_2, hfz13_3⟩ := ze4 BK494.out
    obtain ⟨hcz14_0, hcz14_1, hcz14_2, hcz14_3, hfz14_0, hfz14_1, hfz14_2, hfz14_3⟩ := ze4 BK495.out
    go_wp2
    refine bodyPost_ret (results_cell_row rfl _ _ gb495 32 #[.int .i64 (wrap64 (a0_0 + 1)), .int .i64 0, .int .i64 0, .slice none 0 0] (0, 0) _ rfl (zk4 BK495.out) Tryz.underlying32 rfl (by kernel_rfl)) rfl ?_
    exact ⟨_, zE, by first | exact Kd.R_nil _ _ _ _ _ | exact Kd.N_nil _ _ _ _ _ | exact Kd.V_nil _ _ _ _ _ | exact Kd.Q_nil _ _ _ _ _ | exact Kd.S_nil _ _ _ _ _, zW HB.out⟩
   ·replace H := zI1 H
    rcases H with ⟨c15, H⟩ | ⟨c15, H⟩
    ·have c15b0 := beq_iff_eq.mpr c15
     have c15b1 := bne_eq_false_iff_eq.mpr c15
     clear c15
     replace H := zI1 H
     rcases H with ⟨c16, H⟩ | ⟨c16, H⟩
     ·have c16b0 := beq_iff_eq.mpr c16
      have c16b1 := bne_eq_false_iff_eq.mpr c16
      clear c16
      simp only [Option.some.injEq, Prod.mk.injEq] at H
      obtain ⟨rfl, rfl, rfl, rfl⟩ := H
      have hnb17 := NB494_495.out
      have hnc17 := NB495_494.out
      obtain ⟨hcz18_0, hcz18_1, hcz18_2, hcz18_3, hfz18_0, hfz18_1, hfz18_2, hfz18_3⟩ := ze4 BK494.out
      obtain ⟨hcz19_0, hcz19_1, hcz19_2, hcz19_3, hfz19_0, hfz19_1, hfz19_2, hfz19_3⟩ := ze4 BK495.out
      go_wp2
      refine bodyPost_ret (results_cell_row rfl _ _ gb495 32 #[.int .i64 0, .int .i64 (wrap64 (a0_1 + 1)), .int .i64 0, .slice none 0 0] (0, 0) _ rfl (zk4 BK495.out) Tryz.underlying32 rfl (by kernel_rfl)) rfl ?_
      exact ⟨_, zE, by first | exact Kd.R_nil _ _ _ _ _ | exact Kd.N_nil _ _ _ _ _ | exact Kd.V_nil _ _ _ _ _ | exact Kd.Q_nil _ _ _ _ _ | exact Kd.S_nil _ _ _ _ _, zW HB.out⟩
     ·have c16b0 := beq_eq_false_iff_ne.mpr c16
      have c16b1 := bne_iff_ne.mpr c16
      simp only [Option.some.injEq, Prod.mk.injEq] at H
      obtain ⟨rfl, rfl, rfl, rfl⟩ := H
      have hnb20 := NB494_495.out
      have hnc20 := NB495_494.out
      obtain ⟨hcz21_0, hcz21_1, hcz21_2, hcz21_3, hfz21_0, hfz21_1, hfz21_2, hfz21_3⟩ := ze4 BK494.out
      obtain ⟨hcz22_0, hcz22_1, hcz22_2, hcz22_3, hfz22_0, hfz22_1, hfz22_2, hfz22_3⟩ := ze4 BK495.out
      go_wp2
      refine bodyPost_ret (results_cell_row rfl _ _ gb495 32 #[.int .i64 0, .int .i64 0, .int .i64 (wrap64 (a0_2 + 1)), .slice none 0 0] (0, 0) _ rfl (zk4 BK495.out) Tryz.underlying32 rfl (by kernel_rfl)) rfl ?_
      exact ⟨_, zE, by first | exact Kd.R_nil _ _ _ _ _ | exact Kd.N_nil _ _ _ _ _ | exact Kd.V_nil _ _ _ _ _ | exact Kd.Q_nil _ _ _ _ _ | exact Kd.S_nil _ _ _ _ _, zW HB.out⟩
    ·have c15b0 := beq_eq_false_iff_ne.mpr c15
     have c15b1 := bne_iff_ne.mpr c15
     simp only [Option.some.injEq, Prod.mk.injEq] at H
     obtain ⟨rfl, rfl, rfl, rfl⟩ := H
     have hnb23 := NB494_495.out
     have hnc23 := NB495_494.out
     obtain ⟨hcz24_0, hcz24_1, hcz24_2, hcz24_3, hfz24_0, hfz24_1, hfz24_2, hfz24_3⟩ := ze4 BK494.out
     obtain ⟨hcz25_0, hcz25_1, hcz25_2, hcz25_3, hfz25_0, hfz25_1, hfz25_2, hfz25_3⟩ := ze4 BK495.out
     go_wp2
     refine bodyPost_ret (results_cell_row rfl _ _ gb495 32 #[.int .i64 0, .int .i64 (wrap64 (a0_1 + 1)), .int .i64 0, .slice none 0 0] (0, 0) _ rfl (zk4 BK495.out) Tryz.underlying32 rfl (by kernel_rfl)) rfl ?_
     exact ⟨_, zE, by first | exact Kd.R_nil _ _ _ _ _ | exact Kd.N_nil _ _ _ _ _ | exact Kd.V_nil _ _ _ _ _ | exact Kd.Q_nil _ _ _ _ _ | exact Kd.S_nil _ _ _ _ _, zW HB.out⟩
end Go.Proofs.YtpcdhoeoefoeoaaGreatDoor.PGA
