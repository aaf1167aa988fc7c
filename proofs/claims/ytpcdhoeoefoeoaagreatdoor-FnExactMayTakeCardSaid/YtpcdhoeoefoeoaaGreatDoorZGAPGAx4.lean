/- The walks of the functions that these laws reach, and what each comes to: printed by this session's program. -/
import Derived.Test.YtpcdhoeoefoeoaaGreatDoorZGAPGAx0
import Derived.Test.YtpcdhoeoefoeoaaGreatDoorZGAPGAx1
import Derived.Test.YtpcdhoeoefoeoaaGreatDoorZGAPGAx2
import Derived.Test.YtpcdhoeoefoeoaaGreatDoorZGAPGAx3
import Derived.Test.YtpcdhoeoefoeoaaGreatDoorZGASays
import Derived.Test.YtpcdhoeoefoeoaaGreatDoorZGARegs
namespace Go.Proofs.YtpcdhoeoefoeoaaGreatDoor.PGA
open Go.RowKit YtpcdhoeoefoeoaaGreatDoorW.PrintWords YtpcdhoeoefoeoaaGreatDoorW.PrintLast YtpcdhoeoefoeoaaGreatDoorW.PrintMore
attribute [local go_sem high] Mine.str_gtr Mine.str_leq Mine.str_geq
attribute [local go_sem] max2_int min2_int max_two min_two max_three min_three max_four min_four   -- for this text's walks alone
set_option linter.unusedVariables false
set_option maxHeartbeats 8000000
set_option maxRecDepth 100000
set_option linter.unusedSimpArgs false
/-! ### spec_l4Read: function 153 -/
mutual
def spec_l4Read.j0 : Nat → ByteArray → Option (Int × Int × Int × List ByteArray × Int × Bool)
 | 0, _ => none
 | k + 1, x0 => (spec_Split.f k x0 46).bind fun t166 => (if (t166.length : Int) > 3 then (some (0, 0, 0, ([] : List ByteArray), 0, false)) else (spec_l4Read.j1 k t166 (([0, 0, 0] : List Int)) 0 0 0 0 false))
def spec_l4Read.j1 : Nat → List ByteArray → List Int → Int → Int → Int → Int → Bool → Option (Int × Int × Int × List ByteArray × Int × Bool)
 | 0, _, _, _, _, _, _, _ => none
 | k + 1, x5, x7, x170000, x170001, x170002, x170004, x170005 => spec_l4Read.l0 k x5 x7 x170000 x170001 x170002 x170004 x170005
def spec_l4Read.l0 : Nat → List ByteArray → List Int → Int → Int → Int → Int → Bool → Option (Int × Int × Int × List ByteArray × Int × Bool)
 | 0, _, _, _, _, _, _, _ => none
 | k + 1, x5, x7, x170000, x170001, x170002, x170004, x170005 => if x170004 < (x5.length : Int) then (if 0 ≤ x170004 then (spec_l4Read.j3 k x5 x7 ((rdOf ByteArray.empty x5 x170004).toList != ([120] : List UInt8)) x170000 x170001 x170002 x170004 x170005) else (none)) else (spec_l4Read.j3 k x5 x7 false x170000 x170001 x170002 x170004 x170005)
def spec_l4Read.j3 : Nat → List ByteArray → List Int → Bool → Int → Int → Int → Int → Bool → Option (Int × Int × Int × List ByteArray × Int × Bool)
 | 0, _, _, _, _, _, _, _, _ => none
 | k + 1, x5, x7, x39, x170000, x170001, x170002, x170004, x170005 => if x39 = true then (if 0 ≤ x170004 then (if x170004 < (x5.length : Int) then ((spec_ParseNum.f k (rdOf ByteArray.empty x5 x170004) 9999).bind fun bt175 => (if bt175.2 = true then (if x170004 < (x7.length : Int) then (spec_l4Read.l0 k x5 (x7.set (x170004 : Int).toNat bt175.1) x170000 x170001 x170002 (wrap64 (x170004 + 1)) x170005) else (none)) else (some (0, 0, 0, ([] : List ByteArray), 0, false)))) else (none)) else (none)) else (spec_l4Read.l1 k x5 x7 x170004 x170000 x170001 x170002 x170004 x170005)
def spec_l4Read.l1 : Nat → List ByteArray → List Int → Int → Int → Int → Int → Int → Bool → Option (Int × Int × Int × List ByteArray × Int × Bool)
 | 0, _, _, _, _, _, _, _, _ => none
 | k + 1, x5, x7, x10, x170000, x170001, x170002, x170004, x170005 => if x10 < (x5.length : Int) then (if 0 ≤ x10 then (if (rdOf ByteArray.empty x5 x10).toList = ([120] : List UInt8) then (spec_l4Read.l1 k x5 x7 (wrap64 (x10 + 1)) x170000 x170001 x170002 x170004 x170005) else (some (0, 0, 0, ([] : List ByteArray), 0, false))) else (none)) else (if 0 < (x7.length : Int) then (if 1 < (x7.length : Int) then (if 2 < (x7.length : Int) then ((spec_l1In.f x170004 1 2).bind fun t182 => (some (rd x7 0, rd x7 1, rd x7 2, ([] : List ByteArray), x170004, t182))) else (none)) else (none)) else (none))
end
def spec_l4Read.f (k : Nat) (a0 : ByteArray) : Option (Int × Int × Int × List ByteArray × Int × Bool) := (spec_ParseVer.f k a0).bind fun bt158 => (if bt158.2.2.2.2 = true then (some (bt158.1, bt158.2.1, bt158.2.2.1, bt158.2.2.2.1, 3, true)) else (spec_l4Read.j0 k a0))
def spec_l4Read.T20 : Bool × List (List Nat × List Nat) := (true, [([], []), ([0], [0]), ([1], [1]), ([], []), ([3], [3]), ([4], [4]), ([], []), ([6], [6]), ([7], [7]), ([2, 5, 8], [2, 5, 8]), ([0, 1, 2, 3, 4, 5, 6, 7, 8, 9], []), ([10, 9, 0, 1, 2, 3, 4, 5, 6, 7, 8, 9], [9, 10])])
def spec_l4Read.B20 : List Nat := [0, 1, 3, 0, 8, 24, 0, 64, 192, 511, 1023, 2047]
theorem spec_l4Read.tab20 : rtab .any (opsOf Tryz.f153 20) = spec_l4Read.T20 := by kernel_rfl
theorem spec_l4Read.bits20 : waitsOk spec_l4Read.T20.2 spec_l4Read.B20 = true := by kernel_rfl
theorem spec_l4Read.calls (k : Nat) (a0 : ByteArray) (r1 r2 r3 : Int) (r4 : List ByteArray) (r5 : Int) (r6 : Bool) (w : World) (h : spec_l4Read.f k a0 = some (r1, r2, r3, r4, r5, r6)) :
  Calls Tryz.prog 153 #[.string a0] w fun e w' => ∃ v3_ : Value, e = .returned (.agg #[.int .i64 r1, .int .i64 r2, .int .i64 r3, v3_, .int .i64 r5, .bool r6]) ∧ Kd.R Kd.string 9 w' w.heap.size (fun _ => True) v3_ r4 ∧ Below w.heap.size w w' := by
 have hu169 := Tryz.underlying169
 have hu32 := Tryz.underlying32
 have HB := zA (Below.refl w.heap.size w)
 unfold spec_l4Read.f at h
 have H := h
 clear h
 replace H := zj H
 obtain ⟨⟨t158, t159, t160, t161, t164⟩, A2, H⟩ := H
 try dsimp only at H
 have HC3 := Aside0.mk H
 clear H
 go_enter Tryz.func153, Tryz.ntmps153
 go_upto_if 16 with (first | ((with_reducible refine zd 2 ?_); refine ze 2 169 #[.int .i64 0, .int .i64 0, .int .i64 0, .slice none 0 0, .int .i64 0, .bool false] ?_; intro gb157 hg w4 hbox hb; have BK157 := zA (hbox); have GW157 := zi HB hg; have GE157 := zi HB hg; replace HB := zA (below_step (zB) hb); clear hb hbox hg) | ((with_reducible refine zq 124 ?_); refine zg (some 13) Tryz.func124 #[.string a0] ?_; (with_reducible refine (spec_ParseVer.calls k a0 t158 t159 t160 t161 t164 _ A2.out).mono ?_); rintro e w5 ⟨v162, rfl, ho0, hb⟩; refine ⟨_, rfl, ?_⟩; have HO163 := zA (Kd.R_lower ho0 (below_size (zW HB.out))); replace BK157 := zb BK157 hb; replace HB := zh HB hb; (try clear hb ho0)) | ((with_reducible refine zd 3 ?_); refine ze 3 32 #[.int .i64 0, .int .i64 0, .int .i64 0, .slice none 0 0] ?_; intro gb165 hg w6 hbox hb; replace HO163 := zr HO163 hb; have BK165 := zA (hbox); have GW165 := zi HB hg; have GE165 := zi HB hg; replace HB := zh HB hb; have NB157_165 := zA (zL hg (zK BK157.out)); have NB165_157 := zA (zJ hg (zK BK157.out)); replace BK157 := zb BK157 hb; clear hb hbox hg; have hnb7 := NB165_157.out; have hnc7 := NB157_165.out; obtain ⟨hcz8_0, hcz8_1, hcz8_2, hcz8_3, hfz8_0, hfz8_1, hfz8_2, hfz8_3⟩ := ze4 BK165.out; obtain ⟨Ao9, co9, eo9⟩ := Kd.R_slice HO163.out; subst eo9))
 (try simp only [Act.put, zT])
 go_cut [] (fun wc => ∃ (kq : Nat) (x158000_2 : Int) (x158001_2 : Int) (x158002_2 : Int) (x158004_2 : Int) (x158005_2 : Bool), Aside0 (spec_l4Read.j0 kq a0 = some (r1, r2, r3, r4, r5, r6)) ∧ Aside0 (kq ≤ k) ∧ Aside0 (Kd.R Kd.string 9 wc w.heap.size (fun _ => True) (.slice Ao9 t161.length co9) t161) ∧ Aside0 (wc.heap[gb157]? = some (.cells #[.int .i64 x158000_2, .int .i64 x158001_2, .int .i64 x158002_2, (.slice none 0 0), .int .i64 x158004_2, .bool x158005_2] 169 (0, 0))) ∧ Aside0 (wc.heap[gb165]? = some (.cells #[.int .i64 t158, .int .i64 t159, .int .i64 t160, (.slice Ao9 t161.length co9)] 32 (0, 0))) ∧ Aside0 (Below w.heap.size w wc))
 case first =>
  have H := HC3.out
  clear HC3
  replace H := zB0 H
  rcases H with ⟨rfl, H⟩ | ⟨rfl, H⟩
  ·simp only [Option.some.injEq, Prod.mk.injEq] at H
   obtain ⟨rfl, rfl, rfl, rfl, rfl, rfl⟩ := H
   have hnb11 := NB165_157.out
   have hnc11 := NB157_165.out
   obtain ⟨hcz12_0, hcz12_1, hcz12_2, hcz12_3, hfz12_0, hfz12_1, hfz12_2, hfz12_3⟩ := ze4 BK165.out
   obtain ⟨hcz13_0, hcz13_1, hcz13_2, hcz13_3, hcz13_4, hcz13_5, hfz13_0, hfz13_1, hfz13_2, hfz13_3, hfz13_4, hfz13_5⟩ := ze6 BK157.out
   go_wp2
   refine bodyPost_ret (results_cell_row rfl _ _ gb157 169 #[.int .i64 t158, .int .i64 t159, .int .i64 t160, .slice Ao9 t161.length co9, .int .i64 3, .bool true] (0, 0) _ rfl (zk6 BK157.out) Tryz.underlying169 rfl (by kernel_rfl)) rfl ?_
   exact ⟨_, zE, zR (Kd.R_mono (Kd.R_far (p := ⟨gb157, 5, none⟩) (Kd.R_far (p := ⟨gb157, 4, none⟩) (Kd.R_far (p := ⟨gb157, 3, none⟩) (Kd.R_far (p := ⟨gb157, 2, none⟩) (Kd.R_far (p := ⟨gb157, 1, none⟩) (Kd.R_far (p := ⟨gb157, 0, none⟩) (Kd.R_far (p := ⟨gb165, 3, none⟩) (Kd.R_far (p := ⟨gb165, 2, none⟩) (Kd.R_far (p := ⟨gb165, 1, none⟩) (Kd.R_far (p := ⟨gb165, 0, none⟩) (Kd.R_types (Kd.R_types HO163.out BK165.out (by decide)) BK157.out (by decide)) (fun _ hk => hk.1.2) (.int .i64 t158)) (fun _ hk => hk.1.2) (.int .i64 t159)) (fun _ hk => hk.1.2) (.int .i64 t160)) (fun _ hk => hk.1.2) (.slice Ao9 t161.length co9)) (fun _ hk => hk.2) (.int .i64 t158)) (fun _ hk => hk.2) (.int .i64 t159)) (fun _ hk => hk.2) (.int .i64 t160)) (fun _ hk => hk.2) (.slice Ao9 t161.length co9)) (fun _ hk => hk.2) (.int .i64 3)) (fun _ hk => hk.2) (.bool true)) (fun _ hk => trivial)), zW HB.out⟩
  ·have H' := Aside0.mk H
   clear H
   go_wp2
   go_meet
   case rel => exact ⟨_, (0), (0), (0), (0), (false), (by first | exact H' | (subst_vars; exact H')), ⟨by first | omega | exact Nat.le_refl _⟩, ⟨zR (Kd.R_mono (zr4 HO163.out BK165.out) (fun _ hk => trivial))⟩, ⟨zK BK157.out⟩, ⟨zk4 BK165.out⟩, ⟨zW HB.out⟩⟩
 case rest =>
  clear HC3
  try clear c1
  try clear p2
  try clear c7
  try clear c10
  try clear c11
  try clear c12
  try clear hcz12_0 hcz12_1 hcz12_2 hcz12_3 hfz12_0 hfz12_1 hfz12_2 hfz12_3
  try clear hcz13_0 hcz13_1 hcz13_2 hcz13_3 hcz13_4 hcz13_5 hfz13_0 hfz13_1 hfz13_2 hfz13_3 hfz13_4 hfz13_5
  try clear hcz8_0 hcz8_1 hcz8_2 hcz8_3 hfz8_0 hfz8_1 hfz8_2 hfz8_3
  obtain ⟨kq, x158000_2, x158001_2, x158002_2, x158004_2, x158005_2, HA, HJ2, HO_166003, BK157, BK165, HB⟩ := hcut
  cases kq with
  | zero => exact absurd HA.out (by simp [spec_l4Read.j0])
  | succ kj2 =>
   have H := HA.out
   clear HA
   simp only [spec_l4Read.j0] at H
   replace H := zj H
   obtain ⟨t166, A14, H⟩ := H
   try dsimp only at H
   obtain ⟨y170, hy170⟩ : ∃ y_ : List Int, y_ = (([0, 0, 0] : List Int)) := ⟨_, rfl⟩
   replace H : (if (t166.length : Int) > 3 then (some (0, 0, 0, ([] : List ByteArray), 0, false)) else (spec_l4Read.j1 kj2 t166 y170 0 0 0 0 false)) = some (r1, r2, r3, r4, r5, r6) := zY hy170 H
   have Ny170 := Aside0.mk hy170
   clear hy170
   have HC15 := Aside0.mk H
   clear H
   go_upto_if 25 with (first | ((with_reducible refine zq 78 ?_); refine zg (some 20) Tryz.func78 #[.string a0, .int .u8 46] ?_; (with_reducible refine (spec_Split.calls kj2 a0 46 t166 _ A14.out).mono ?_); rintro e w16 ⟨v167, rfl, ho0, hb⟩; refine ⟨_, rfl, ?_⟩; have HO168 := zA (Kd.R_lower (Kd.R_new' ho0 (Kd.R_lt (zR HO_166003.out))) (below_size (zW HB.out))); replace HO_166003 := zA (Kd.R_elder' (zR HO_166003.out) (Kd.R_base ho0) hb); replace BK157 := zb BK157 hb; replace BK165 := zb BK165 hb; replace HB := zh HB hb; (try clear hb ho0)) | ((with_reducible refine zd 6 ?_); refine ze 6 169 #[.int .i64 0, .int .i64 0, .int .i64 0, .slice none 0 0, .int .i64 0, .bool false] ?_; intro gb169 hg w17 hbox hb; replace HO_166003 := zr HO_166003 hb; replace HO168 := zr HO168 hb; have BK169 := zA (hbox); have GW169 := zi HB hg; have GE169 := zi HB hg; replace HB := zh HB hb; have NB157_169 := zA (zL hg (zK BK157.out)); have NB169_157 := zA (zJ hg (zK BK157.out)); replace BK157 := zb BK157 hb; have NB165_169 := zA (zL hg (zK BK165.out)); have NB169_165 := zA (zJ hg (zK BK165.out)); replace BK165 := zb BK165 hb; clear hb hbox hg; have hnb18 := NB169_157.out; have hnc18 := NB157_169.out; have hnb19 := NB169_165.out; have hnc19 := NB165_169.out; obtain ⟨hcz20_0, hcz20_1, hcz20_2, hcz20_3, hcz20_4, hcz20_5, hfz20_0, hfz20_1, hfz20_2, hfz20_3, hfz20_4, hfz20_5⟩ := ze6 BK169.out) | ((with_reducible refine gate_dst (N := 22) rfl ?_); refine Kd.R_lit (Kd.int .i64) _ 3 ?hg (N := 22) ?hd (xs := ([0, 0, 0] : List Int)) (inner := [.int .i64 0, .int .i64 0, .int .i64 0]) (ok := fun _ => True) ?hr ?hp (fun _ hk => hk) trivial (Below.refl _ _) (Nat.le_refl _) (by simp) ?_; (case hd => rfl); (case hg => rfl); (case hr => first | (go_simp; done) | (go_simp; rfl)); (case hp => exact (Reps.one (show Kd.M (Kd.int .i64) _ _ _ 0 [.int .i64 0] from rfl) (Reps.one (show Kd.M (Kd.int .i64) _ _ _ 0 [.int .i64 0] from rfl) (Reps.one (show Kd.M (Kd.int .i64) _ _ _ 0 [.int .i64 0] from rfl) (Reps.none _ _))))); intro v171 w21 ho22 hb hg_ hnew_; clear hg_ hnew_; (first | rw [← Ny170.out] at ho22 | (simp only [Int.reduceToNat] at ho22; rw [← Ny170.out] at ho22)); replace HO_166003 := zA (Kd.R_below (zR (zr6 HO_166003.out BK169.out)) hb); replace HO168 := zA (Kd.R_below (zR (zr6 HO168.out BK169.out)) hb); have HO172 := zA (Kd.R_lower ho22 (below_size (zW HB.out))); replace BK157 := zb BK157 hb; replace BK165 := zb BK165 hb; replace BK169 := zA (blk_below (zk6 BK169.out) hb); replace HB := zh HB hb; clear hb ho22; obtain ⟨Ao23, co23, eo23⟩ := Kd.R_slice HO168.out; subst eo23))
   (try simp only [Act.put, zT])
   go_cut [] (fun wc => ∃ (kq : Nat) (x158000_14 : Int) (x158001_14 : Int) (x158002_14 : Int) (x158004_14 : Int) (x158005_14 : Bool), Aside0 (spec_l4Read.j1 kq t166 y170 0 0 0 0 false = some (r1, r2, r3, r4, r5, r6)) ∧ Aside0 (kq ≤ kj2) ∧ Aside0 (Kd.R Kd.string 9 wc w.heap.size (fun k_ => some k_ ≠ ((.slice Ao9 t161.length co9) : Value).ownBlock) (.slice Ao23 t166.length co23) t166) ∧ Aside0 (Kd.R (Kd.int .i64) 3 wc w.heap.size (fun _ => True) v171 y170) ∧ Aside0 (Kd.R Kd.string 9 wc w.heap.size (fun k_ => some k_ ≠ ((.slice Ao23 t166.length co23) : Value).ownBlock) (.slice Ao9 t161.length co9) t161) ∧ Aside0 (wc.heap[gb157]? = some (.cells #[.int .i64 x158000_14, .int .i64 x158001_14, .int .i64 x158002_14, (.slice none 0 0), .int .i64 x158004_14, .bool x158005_14] 169 (0, 0))) ∧ Aside0 (wc.heap[gb165]? = some (.cells #[.int .i64 t158, .int .i64 t159, .int .i64 t160, (.slice Ao9 t161.length co9)] 32 (0, 0))) ∧ Aside0 (wc.heap[gb169]? = some (.cells #[.int .i64 0, .int .i64 0, .int .i64 0, (.slice none 0 0), .int .i64 0, .bool false] 169 (0, 0))) ∧ Aside0 (Below w.heap.size w wc))
   case first =>
    have H := HC15.out
    clear HC15
    replace H := zI1 H
    rcases H with ⟨c24, H⟩ | ⟨c24, H⟩
    ·have c24b0 : decide (3 < (t166.length : Int)) = true := decide_eq_true c24
     have c24b1 : decide (3 < t166.length) = true := decide_eq_true (by omega)
     clear c24
     (first | rw [c24b0] | (simp only [i64_w, i32_w]; rw [c24b0]) | skip)
     simp only [Option.some.injEq, Prod.mk.injEq] at H
     obtain ⟨rfl, rfl, rfl, rfl, rfl, rfl⟩ := H
     have hnb25 := NB169_157.out
     have hnc25 := NB157_169.out
     have hnb26 := NB169_165.out
     have hnc26 := NB165_169.out
     obtain ⟨hcz27_0, hcz27_1, hcz27_2, hcz27_3, hcz27_4, hcz27_5, hfz27_0, hfz27_1, hfz27_2, hfz27_3, hfz27_4, hfz27_5⟩ := ze6 BK169.out
     have hnb28 := NB157_165.out
     have hnc28 := NB165_157.out
     obtain ⟨hcz29_0, hcz29_1, hcz29_2, hcz29_3, hcz29_4, hcz29_5, hfz29_0, hfz29_1, hfz29_2, hfz29_3, hfz29_4, hfz29_5⟩ := ze6 BK157.out
     go_wp2
     refine bodyPost_ret (results_cell_row rfl _ _ gb157 169 #[.int .i64 0, .int .i64 0, .int .i64 0, .slice none 0 0, .int .i64 0, .bool false] (0, 0) _ rfl (zk6 BK157.out) Tryz.underlying169 rfl (by kernel_rfl)) rfl ?_
     exact ⟨_, zE, by first | exact Kd.R_nil _ _ _ _ _ | exact Kd.N_nil _ _ _ _ _ | exact Kd.V_nil _ _ _ _ _ | exact Kd.Q_nil _ _ _ _ _ | exact Kd.S_nil _ _ _ _ _, zW HB.out⟩
    ·have c24b0 : decide (3 < (t166.length : Int)) = false := decide_eq_false c24
     have c24b1 : decide (3 < t166.length) = false := decide_eq_false (by omega)
     clear c24
     (first | rw [c24b0] | (simp only [i64_w, i32_w]; rw [c24b0]) | skip)
     have H' := Aside0.mk H
     clear H
     go_wp2
     go_meet
     case rel => exact ⟨_, (x158000_2), (x158001_2), (x158002_2), (x158004_2), (x158005_2), (by first | exact H' | (subst_vars; exact H')), ⟨by have := HJ2.out; first | omega | exact Nat.le_refl _⟩, ⟨zR (Kd.R_mono HO168.out (fun _ hk => hk.2))⟩, ⟨zR HO172.out⟩, ⟨zR (Kd.R_mono HO_166003.out (fun _ hk => hk.2))⟩, ⟨zK BK157.out⟩, ⟨zK BK165.out⟩, ⟨zK BK169.out⟩, ⟨zW HB.out⟩⟩
   case rest =>
    clear HC15
    try clear c1
    try clear c2
    try clear p2
    try clear c7
    try clear c10
    try clear c11
    try clear c12
    try clear c15
    try clear c18
    try clear c19
    try clear c24
    try clear c24b0
    try clear c24b1
    try clear c25
    try clear c26
    try clear c28
    try clear hcz12_0 hcz12_1 hcz12_2 hcz12_3 hfz12_0 hfz12_1 hfz12_2 hfz12_3
    try clear hcz13_0 hcz13_1 hcz13_2 hcz13_3 hcz13_4 hcz13_5 hfz13_0 hfz13_1 hfz13_2 hfz13_3 hfz13_4 hfz13_5
    try clear hcz20_0 hcz20_1 hcz20_2 hcz20_3 hcz20_4 hcz20_5 hfz20_0 hfz20_1 hfz20_2 hfz20_3 hfz20_4 hfz20_5
    try clear hcz27_0 hcz27_1 hcz27_2 hcz27_3 hcz27_4 hcz27_5 hfz27_0 hfz27_1 hfz27_2 hfz27_3 hfz27_4 hfz27_5
    try clear hcz29_0 hcz29_1 hcz29_2 hcz29_3 hcz29_4 hcz29_5 hfz29_0 hfz29_1 hfz29_2 hfz29_3 hfz29_4 hfz29_5
    try clear hcz8_0 hcz8_1 hcz8_2 hcz8_3 hfz8_0 hfz8_1 hfz8_2 hfz8_3
    try clear p2
    obtain ⟨kq, x158000_14, x158001_14, x158002_14, x158004_14, x158005_14, HA, HJ14, HO_5, HO_7, HO_166003, BK157, BK165, BK169, HB⟩ := hcut
    cases kq with
    | zero => exact absurd HA.out (by simp [spec_l4Read.j1])
    | succ kj14 =>
     have H := HA.out
     clear HA
     simp only [spec_l4Read.j1] at H
     have H' := Aside0.mk H
     clear H
     go_wp2
     go_loopg [] kj14 (fun kq w' => ∃ (x7_3 : List Int) (x158000_3 : Int) (x158001_3 : Int) (x158002_3 : Int) (x158004_3 : Int) (x158005_3 : Bool) (x170004_3 : Int), Aside0 (spec_l4Read.l0 kq t166 x7_3 0 0 0 x170004_3 false = some (r1, r2, r3, r4, r5, r6)) ∧ Aside0 (kq ≤ kj14) ∧ Aside0 (Kd.R Kd.string 9 w' w.heap.size (fun k_ => some k_ ≠ ((.slice Ao9 t161.length co9) : Value).ownBlock) (.slice Ao23 t166.length co23) t166) ∧ Aside0 (Kd.R (Kd.int .i64) 3 w' w.heap.size (fun _ => True) v171 x7_3) ∧ Aside0 (Kd.R Kd.string 9 w' w.heap.size (fun k_ => some k_ ≠ ((.slice Ao23 t166.length co23) : Value).ownBlock) (.slice Ao9 t161.length co9) t161) ∧ Aside0 (w'.heap[gb157]? = some (.cells #[.int .i64 x158000_3, .int .i64 x158001_3, .int .i64 x158002_3, (.slice none 0 0), .int .i64 x158004_3, .bool x158005_3] 169 (0, 0))) ∧ Aside0 (w'.heap[gb165]? = some (.cells #[.int .i64 t158, .int .i64 t159, .int .i64 t160, (.slice Ao9 t161.length co9)] 32 (0, 0))) ∧ Aside0 (w'.heap[gb169]? = some (.cells #[.int .i64 0, .int .i64 0, .int .i64 0, (.slice none 0 0), .int .i64 x170004_3, .bool false] 169 (0, 0))) ∧ Aside0 (Below w.heap.size w w'))
     case atStart => exact ⟨(y170), (x158000_14), (x158001_14), (x158002_14), (x158004_14), (x158005_14), (0), H', ⟨Nat.le_refl _⟩, ⟨zR HO_5.out⟩, ⟨zR HO_7.out⟩, ⟨zR HO_166003.out⟩, ⟨zK BK157.out⟩, ⟨zK BK165.out⟩, ⟨zK BK169.out⟩, ⟨zW HB.out⟩⟩
     case round =>
      clear H'
      try clear c1
      try clear c2
      try clear p2
      try clear c7
      try clear c10
      try clear c11
      try clear c12
      try clear c15
      try clear c18
      try clear c19
      try clear c24
      try clear c24b0
      try clear c24b1
      try clear c25
      try clear c26
      try clear c28
      try clear hcz12_0 hcz12_1 hcz12_2 hcz12_3 hfz12_0 hfz12_1 hfz12_2 hfz12_3
      try clear hcz13_0 hcz13_1 hcz13_2 hcz13_3 hcz13_4 hcz13_5 hfz13_0 hfz13_1 hfz13_2 hfz13_3 hfz13_4 hfz13_5
      try clear hcz20_0 hcz20_1 hcz20_2 hcz20_3 hcz20_4 hcz20_5 hfz20_0 hfz20_1 hfz20_2 hfz20_3 hfz20_4 hfz20_5
      try clear hcz27_0 hcz27_1 hcz27_2 hcz27_3 hcz27_4 hcz27_5 hfz27_0 hfz27_1 hfz27_2 hfz27_3 hfz27_4 hfz27_5
      try clear hcz29_0 hcz29_1 hcz29_2 hcz29_3 hcz29_4 hcz29_5 hfz29_0 hfz29_1 hfz29_2 hfz29_3 hfz29_4 hfz29_5
      try clear hcz8_0 hcz8_1 hcz8_2 hcz8_3 hfz8_0 hfz8_1 hfz8_2 hfz8_3
      try clear p2
      obtain ⟨x7_3, x158000_3, x158001_3, x158002_3, x158004_3, x158005_3, x170004_3, HA, HK3, HO_5, HO_7, HO_166003, BK157, BK165, BK169, HB⟩ := hrel
      cases gk with
      | zero => exact absurd HA.out (by simp [spec_l4Read.l0])
      | succ k3 =>
       have H := HA.out
       clear HA
       simp only [spec_l4Read.l0] at H
       have HC30 := Aside0.mk H
       clear H
       go_upto_region 9 with (fail)
       go_cut [39] (fun v39 wc => ∃ (kq : Nat) (x39_29 : Bool), v39 = .bool x39_29 ∧ Aside0 (spec_l4Read.j3 kq t166 x7_3 x39_29 0 0 0 x170004_3 false = some (r1, r2, r3, r4, r5, r6)) ∧ Aside0 (kq ≤ k3) ∧ Aside0 (Kd.R Kd.string 9 wc w.heap.size (fun k_ => some k_ ≠ ((.slice Ao9 t161.length co9) : Value).ownBlock) (.slice Ao23 t166.length co23) t166) ∧ Aside0 (Kd.R (Kd.int .i64) 3 wc w.heap.size (fun _ => True) v171 x7_3) ∧ Aside0 (Kd.R Kd.string 9 wc w.heap.size (fun k_ => some k_ ≠ ((.slice Ao23 t166.length co23) : Value).ownBlock) (.slice Ao9 t161.length co9) t161) ∧ Aside0 (wc.heap[gb157]? = some (.cells #[.int .i64 x158000_3, .int .i64 x158001_3, .int .i64 x158002_3, (.slice none 0 0), .int .i64 x158004_3, .bool x158005_3] 169 (0, 0))) ∧ Aside0 (wc.heap[gb165]? = some (.cells #[.int .i64 t158, .int .i64 t159, .int .i64 t160, (.slice Ao9 t161.length co9)] 32 (0, 0))) ∧ Aside0 (wc.heap[gb169]? = some (.cells #[.int .i64 0, .int .i64 0, .int .i64 0, (.slice none 0 0), .int .i64 x170004_3, .bool false] 169 (0, 0))) ∧ Aside0 (Below w.heap.size w wc))
       case first =>
        have H := HC30.out
        clear HC30
        replace H := zI0 H
        rcases H with ⟨c31b0, H⟩ | ⟨c31b0, H⟩
        ·(first | rw [c31b0] | (simp only [i64_w, i32_w]; rw [c31b0]) | skip)
         replace H := zD0 H
         obtain ⟨c32b0, H⟩ := H
         have H' := Aside0.mk H
         clear H
         have hnb33 := NB169_157.out
         have hnc33 := NB157_169.out
         have hnb34 := NB169_165.out
         have hnc34 := NB165_169.out
         obtain ⟨hcz35_0, hcz35_1, hcz35_2, hcz35_3, hcz35_4, hcz35_5, hfz35_0, hfz35_1, hfz35_2, hfz35_3, hfz35_4, hfz35_5⟩ := ze6 BK169.out
         have p173 : 0 ≤ (x170004_3 : Int) := zD
         have q173 : x170004_3 < (t166.length : Int) := zD
         obtain ⟨ad173, e173, hx173_0⟩ := Kd.at_string (Kd.R_reads' HO_5.out).2.2 x170004_3 p173 q173
         cases e173
         replace p173 := eq_true p173
         replace q173 := eq_true q173
         go_wp2
         go_meet
         case rel => exact ⟨_, (((rdOf ByteArray.empty t166 x170004_3).toList != ([120] : List UInt8))), zS, (by first | exact H' | (subst_vars; exact H')), ⟨by have := HJ2.out; have := HJ14.out; have := HK3.out; first | omega | exact Nat.le_refl _⟩, ⟨zR HO_5.out⟩, ⟨zR HO_7.out⟩, ⟨zR HO_166003.out⟩, ⟨zK BK157.out⟩, ⟨zK BK165.out⟩, ⟨zK BK169.out⟩, ⟨zW HB.out⟩⟩
        ·(first | rw [c31b0] | (simp only [i64_w, i32_w]; rw [c31b0]) | skip)
         have H' := Aside0.mk H
         clear H
         have hnb36 := NB169_157.out
         have hnc36 := NB157_169.out
         have hnb37 := NB169_165.out
         have hnc37 := NB165_169.out
         obtain ⟨hcz38_0, hcz38_1, hcz38_2, hcz38_3, hcz38_4, hcz38_5, hfz38_0, hfz38_1, hfz38_2, hfz38_3, hfz38_4, hfz38_5⟩ := ze6 BK169.out
         go_wp2
         go_meet
         case rel => exact ⟨_, (false), zS, (by first | exact H' | (subst_vars; exact H')), ⟨by have := HJ2.out; have := HJ14.out; have := HK3.out; first | omega | exact Nat.le_refl _⟩, ⟨zR HO_5.out⟩, ⟨zR HO_7.out⟩, ⟨zR HO_166003.out⟩, ⟨zK BK157.out⟩, ⟨zK BK165.out⟩, ⟨zK BK169.out⟩, ⟨zW HB.out⟩⟩
       case rest =>
        clear HC30
        try clear c1
        try clear p1
        try clear q1
        try clear hx1
        try clear c2
        try clear p2
        try clear c3
        try clear c7
        try clear c10
        try clear c11
        try clear c12
        try clear c15
        try clear p17
        try clear q17
        try clear hx17
        try clear c18
        try clear c19
        try clear c24
        try clear c24b0
        try clear c24b1
        try clear c25
        try clear c26
        try clear c28
        try clear c31
        try clear c31b0
        try clear c32
        try clear c32b0
        try clear c33
        try clear c34
        try clear c36
        try clear c37
        try clear hcz12_0 hcz12_1 hcz12_2 hcz12_3 hfz12_0 hfz12_1 hfz12_2 hfz12_3
        try clear hcz13_0 hcz13_1 hcz13_2 hcz13_3 hcz13_4 hcz13_5 hfz13_0 hfz13_1 hfz13_2 hfz13_3 hfz13_4 hfz13_5
        try clear hcz20_0 hcz20_1 hcz20_2 hcz20_3 hcz20_4 hcz20_5 hfz20_0 hfz20_1 hfz20_2 hfz20_3 hfz20_4 hfz20_5
        try clear hcz27_0 hcz27_1 hcz27_2 hcz27_3 hcz27_4 hcz27_5 hfz27_0 hfz27_1 hfz27_2 hfz27_3 hfz27_4 hfz27_5
        try clear hcz29_0 hcz29_1 hcz29_2 hcz29_3 hcz29_4 hcz29_5 hfz29_0 hfz29_1 hfz29_2 hfz29_3 hfz29_4 hfz29_5
        try clear hcz35_0 hcz35_1 hcz35_2 hcz35_3 hcz35_4 hcz35_5 hfz35_0 hfz35_1 hfz35_2 hfz35_3 hfz35_4 hfz35_5
        try clear hcz38_0 hcz38_1 hcz38_2 hcz38_3 hcz38_4 hcz38_5 hfz38_0 hfz38_1 hfz38_2 hfz38_3 hfz38_4 hfz38_5
        try clear hcz8_0 hcz8_1 hcz8_2 hcz8_3 hfz8_0 hfz8_1 hfz8_2 hfz8_3
        try clear hx173_0
        try clear p173
        try clear p2
        try clear q173
        obtain ⟨kq, x39_29, rfl, HA, HJ29, HO_5, HO_7, HO_166003, BK157, BK165, BK169, HB⟩ := hcut
        cases kq with
        | zero => exact absurd HA.out (by simp [spec_l4Read.j3])
        | succ kj29 =>
         have H := HA.out
         clear HA
         simp only [spec_l4Read.j3] at H
         replace H := zB0 H
         rcases H with ⟨rfl, H⟩ | ⟨rfl, H⟩
         ·replace H := zD0 H
          obtain ⟨c40b0, H⟩ := H
          replace H := zD0 H
          obtain ⟨c41b0, H⟩ := H
          replace H := zj H
          obtain ⟨⟨t175, t176⟩, A42, H⟩ := H
          try dsimp only at H
          replace H := zB0 H
          rcases H with ⟨rfl, H⟩ | ⟨rfl, H⟩
          ·replace H := zD0 H
           obtain ⟨c44b0, H⟩ := H
           obtain ⟨y177, hy177⟩ : ∃ y_ : List Int, y_ = (x7_3.set (x170004_3 : Int).toNat t175) := ⟨_, rfl⟩
           replace H : (spec_l4Read.l0 kj29 t166 y177 0 0 0 (wrap64 (x170004_3 + 1)) false) = some (r1, r2, r3, r4, r5, r6) := zY hy177 H
           have Ny177 := Aside0.mk hy177
           clear hy177
           have H' := Aside0.mk H
           clear H
           have hnb46 := NB169_157.out
           have hnc46 := NB157_169.out
           have hnb47 := NB169_165.out
           have hnc47 := NB165_169.out
           obtain ⟨hcz48_0, hcz48_1, hcz48_2, hcz48_3, hcz48_4, hcz48_5, hfz48_0, hfz48_1, hfz48_2, hfz48_3, hfz48_4, hfz48_5⟩ := ze6 BK169.out
           have p174 : 0 ≤ (x170004_3 : Int) := zD
           have q174 : x170004_3 < (t166.length : Int) := zD
           obtain ⟨ad174, e174, hx174_0⟩ := Kd.at_string (Kd.R_reads' HO_5.out).2.2 x170004_3 p174 q174
           cases e174
           replace p174 := eq_true p174
           replace q174 := eq_true q174
           go_wp2_with (first | ((with_reducible refine zq 152 ?_); refine zg (some 46) Tryz.func152 #[.string (rdOf ByteArray.empty t166 x170004_3), .int .i64 9999] ?_; (with_reducible refine (spec_ParseNum.calls kj29 (rdOf ByteArray.empty t166 x170004_3) 9999 t175 true _ A42.out).mono ?_); rintro e w' ⟨rfl, ⟨nd, rfl⟩⟩; refine ⟨_, rfl, ?_⟩; (try (rw [drewN_self wc]; generalize hq_ : World.drewN wc _ = wc; have n0_ : Aside0 (Kd.R Kd.string 9 wc w.heap.size (fun k_ => some k_ ≠ (.slice (some ad174) t166.length co23 : Value).ownBlock) (.slice Ao9 t161.length co9) t161) := ⟨by rw [← hq_]; exact (zR HO_166003.out)⟩; have n1_ : Aside0 (Kd.R Kd.string 9 wc w.heap.size (fun k_ => some k_ ≠ (.slice Ao9 t161.length co9 : Value).ownBlock) (.slice (some ad174) t166.length co23) t166) := ⟨by rw [← hq_]; exact (zR HO_5.out)⟩; have n2_ : Aside0 (Kd.R (Kd.int .i64) 3 wc w.heap.size (fun _ => True) v171 x7_3) := ⟨by rw [← hq_]; exact (zR HO_7.out)⟩; have n3_ : Aside0 (wc.heap[gb157]? = some (.cells #[.int .i64 x158000_3, .int .i64 x158001_3, .int .i64 x158002_3, .slice none 0 0, .int .i64 x158004_3, .bool x158005_3] 169 (0, 0))) := ⟨by rw [← hq_]; exact (zK BK157.out)⟩; have n4_ : Aside0 (wc.heap[gb165]? = some (.cells #[.int .i64 t158, .int .i64 t159, .int .i64 t160, .slice Ao9 t161.length co9] 32 (0, 0))) := ⟨by rw [← hq_]; exact (zK BK165.out)⟩; have n5_ : Aside0 (wc.heap[gb169]? = some (.cells #[.int .i64 0, .int .i64 0, .int .i64 0, .slice none 0 0, .int .i64 x170004_3, .bool false] 169 (0, 0))) := ⟨by rw [← hq_]; exact (zK BK169.out)⟩; have n6_ : Aside0 (Below w.heap.size w wc) := ⟨by rw [← hq_]; exact (zW HB.out)⟩; clear HO_166003 HO_5 HO_7 BK157 BK165 BK169 HB hq_; have HO_166003 := n0_; have HO_5 := n1_; have HO_7 := n2_; have BK157 := n3_; have BK165 := n4_; have BK169 := n5_; have HB := n6_; clear n0_ n1_ n2_ n3_ n4_ n5_ n6_)); (try (obtain ⟨hcz48_0, hcz48_1, hcz48_2, hcz48_3, hcz48_4, hcz48_5, hfz48_0, hfz48_1, hfz48_2, hfz48_3, hfz48_4, hfz48_5⟩ := ze6 BK169.out)); have p45 : 0 ≤ (x170004_3 : Int) := zD; have q45 : (x170004_3 : Int) < ((x7_3.length : Int) : Int) := zD; obtain ⟨go45, co45, eo45, gb45, gl45, cl45, HG45⟩ := Kd.R_form HO_7.out (by omega); (first | cases eo45 | (injection eo45 with ea_ en_ ec_; (first | subst ea_ | (injection ea_ with ea_; subst ea_)); subst ec_; clear en_)); have GB45 := Aside0.mk gb45; have GG45 := Aside0.mk HG45; clear gb45 gl45 HG45; obtain ⟨hx45_0, hf45_0⟩ := Kd.R_celln 0 HO_7.out (x170004_3 : Int) p45 q45; replace p45 := eq_true p45; replace q45 := eq_true q45; obtain ⟨hy49_, hz49_⟩ := Kd.R_celln 0 HO_7.out (x170004_3 : Int) (zD) (zD); have HP49 := Kd.R_putg HO_7.out (x170004_3 : Int) t175) | ((with_reducible refine gate_store (t := 3) (p := 56) rfl ?_); refine store_event (t := 3) (p := 56) (v := ?vo_w50) (w1 := (wc.setCell ⟨go45, (x170004_3 : Int).toNat, none⟩ (.int .i64 t175))) ?hg ?ho ?hn ?hr ?_; (case ho => rfl); (case hg => rfl); (case hn => rfl); (case hr => first | (go_simp; done) | (go_simp; rfl)); intro w50 hw; have hg : wc.grownBy w50 (some go45) := (by rw [hw]; exact HP49.2); have hp_ : Kd.R (Kd.int .i64) 3 w50 w.heap.size (fun _ => True) (.slice (some ⟨go45, 0, none⟩) x7_3.length co45) y177 := (by rw [hw, Ny177.out]; exact HP49.1); clear HP49; replace HO_5 := zA (Kd.R_over' (v := (.slice (some ⟨go45, 0, none⟩) x7_3.length co45)) (zR HO_5.out) (Kd.R_typed HO_7.out) (by decide) hg); replace HO_166003 := zA (Kd.R_over' (v := (.slice (some ⟨go45, 0, none⟩) x7_3.length co45)) (zR HO_166003.out) (Kd.R_typed HO_7.out) (by decide) hg); replace BK157 := zA (blk_grown (g := gb157) (o := .cells #[.int .i64 x158000_3, .int .i64 x158001_3, .int .i64 x158002_3, .slice none 0 0, .int .i64 x158004_3, .bool x158005_3] 169 (0, 0)) (zK BK157.out) hg (Kd.R_ne HO_7.out BK157.out (by decide))); replace BK165 := zA (blk_grown (g := gb165) (o := .cells #[.int .i64 t158, .int .i64 t159, .int .i64 t160, .slice Ao9 t161.length co9] 32 (0, 0)) (zK BK165.out) hg (Kd.R_ne HO_7.out BK165.out (by decide))); replace BK169 := zA (blk_grown (g := gb169) (o := .cells #[.int .i64 0, .int .i64 0, .int .i64 0, .slice none 0 0, .int .i64 x170004_3, .bool false] 169 (0, 0)) (zK BK169.out) hg (Kd.R_ne HO_7.out BK169.out (by decide))); replace HO_7 := zA (hp_); replace HB := zA ((by rw [hw]; exact below_set (HB.out) GB45.out : Below w.heap.size w w50)); clear hg hw hp_; obtain ⟨hcz51_0, hcz51_1, hcz51_2, hcz51_3, hcz51_4, hcz51_5, hfz51_0, hfz51_1, hfz51_2, hfz51_3, hfz51_4, hfz51_5⟩ := ze6 BK169.out))
           go_roundg kj29
           case measure => have := HJ2.out; have := HJ14.out; have := HK3.out; have := HJ29.out; omega
           case rel => exact ⟨(y177), (x158000_3), (x158001_3), (x158002_3), (x158004_3), (x158005_3), (wrap64 (x170004_3 + 1)), H', ⟨by have := HJ2.out; have := HJ14.out; have := HK3.out; have := HJ29.out; omega⟩, ⟨zR (Kd.R_mono (Kd.R_far (p := ⟨gb169, 4, none⟩) (Kd.R_types HO_5.out BK169.out (by decide)) (fun _ hk => hk.2) (.int .i64 (wrap64 (x170004_3 + 1)))) (fun _ hk => hk.1))⟩, ⟨zR (Kd.R_mono (Kd.R_far (p := ⟨gb169, 4, none⟩) (Kd.R_types HO_7.out BK169.out (by decide)) (fun _ hk => hk.2) (.int .i64 (wrap64 (x170004_3 + 1)))) (fun _ hk => trivial))⟩, ⟨zR (Kd.R_mono (Kd.R_far (p := ⟨gb169, 4, none⟩) (Kd.R_types HO_166003.out BK169.out (by decide)) (fun _ hk => hk.2) (.int .i64 (wrap64 (x170004_3 + 1)))) (fun _ hk => hk.1))⟩, ⟨zK BK157.out⟩, ⟨zK BK165.out⟩, ⟨by (with_reducible repeat (first | refine blk_drewN ?_ _ | refine blk_drew ?_ | refine blk_alloc ?_ _)); refine blk_put (cs := #[.int .i64 0, .int .i64 0, .int .i64 0, .slice none 0 0, .int .i64 x170004_3, .bool false]) ?_ 4 _ rfl; (with_reducible repeat (first | refine blk_drewN ?_ _ | refine blk_drew ?_ | refine blk_alloc ?_ _)); exact BK169.out⟩, ⟨zW HB.out⟩⟩
          ·simp only [Option.some.injEq, Prod.mk.injEq] at H
           obtain ⟨rfl, rfl, rfl, rfl, rfl, rfl⟩ := H
           have hnb52 := NB169_157.out
           have hnc52 := NB157_169.out
           have hnb53 := NB169_165.out
           have hnc53 := NB165_169.out
           obtain ⟨hcz54_0, hcz54_1, hcz54_2, hcz54_3, hcz54_4, hcz54_5, hfz54_0, hfz54_1, hfz54_2, hfz54_3, hfz54_4, hfz54_5⟩ := ze6 BK169.out
           have p174 : 0 ≤ (x170004_3 : Int) := zD
           have q174 : x170004_3 < (t166.length : Int) := zD
           obtain ⟨ad174, e174, hx174_0⟩ := Kd.at_string (Kd.R_reads' HO_5.out).2.2 x170004_3 p174 q174
           cases e174
           replace p174 := eq_true p174
           replace q174 := eq_true q174
           go_wp2_with (first | ((with_reducible refine zq 152 ?_); refine zg (some 46) Tryz.func152 #[.string (rdOf ByteArray.empty t166 x170004_3), .int .i64 9999] ?_; (with_reducible refine (spec_ParseNum.calls kj29 (rdOf ByteArray.empty t166 x170004_3) 9999 t175 false _ A42.out).mono ?_); rintro e w' ⟨rfl, ⟨nd, rfl⟩⟩; refine ⟨_, rfl, ?_⟩; (try (rw [drewN_self wc]; generalize hq_ : World.drewN wc _ = wc; have n0_ : Aside0 (Kd.R Kd.string 9 wc w.heap.size (fun k_ => some k_ ≠ (.slice (some ad174) t166.length co23 : Value).ownBlock) (.slice Ao9 t161.length co9) t161) := ⟨by rw [← hq_]; exact (zR HO_166003.out)⟩; have n1_ : Aside0 (Kd.R Kd.string 9 wc w.heap.size (fun k_ => some k_ ≠ (.slice Ao9 t161.length co9 : Value).ownBlock) (.slice (some ad174) t166.length co23) t166) := ⟨by rw [← hq_]; exact (zR HO_5.out)⟩; have n2_ : Aside0 (Kd.R (Kd.int .i64) 3 wc w.heap.size (fun _ => True) v171 x7_3) := ⟨by rw [← hq_]; exact (zR HO_7.out)⟩; have n3_ : Aside0 (wc.heap[gb157]? = some (.cells #[.int .i64 x158000_3, .int .i64 x158001_3, .int .i64 x158002_3, .slice none 0 0, .int .i64 x158004_3, .bool x158005_3] 169 (0, 0))) := ⟨by rw [← hq_]; exact (zK BK157.out)⟩; have n4_ : Aside0 (wc.heap[gb165]? = some (.cells #[.int .i64 t158, .int .i64 t159, .int .i64 t160, .slice Ao9 t161.length co9] 32 (0, 0))) := ⟨by rw [← hq_]; exact (zK BK165.out)⟩; have n5_ : Aside0 (wc.heap[gb169]? = some (.cells #[.int .i64 0, .int .i64 0, .int .i64 0, .slice none 0 0, .int .i64 x170004_3, .bool false] 169 (0, 0))) := ⟨by rw [← hq_]; exact (zK BK169.out)⟩; have n6_ : Aside0 (Below w.heap.size w wc) := ⟨by rw [← hq_]; exact (zW HB.out)⟩; clear HO_166003 HO_5 HO_7 BK157 BK165 BK169 HB hq_; have HO_166003 := n0_; have HO_5 := n1_; have HO_7 := n2_; have BK157 := n3_; have BK165 := n4_; have BK169 := n5_; have HB := n6_; clear n0_ n1_ n2_ n3_ n4_ n5_ n6_)); (try (obtain ⟨hcz54_0, hcz54_1, hcz54_2, hcz54_3, hcz54_4, hcz54_5, hfz54_0, hfz54_1, hfz54_2, hfz54_3, hfz54_4, hfz54_5⟩ := ze6 BK169.out)); have hnb55 := NB157_165.out; have hnc55 := NB165_157.out; obtain ⟨hcz56_0, hcz56_1, hcz56_2, hcz56_3, hcz56_4, hcz56_5, hfz56_0, hfz56_1, hfz56_2, hfz56_3, hfz56_4, hfz56_5⟩ := ze6 BK157.out))
           refine bodyPost_ret (results_cell_row rfl _ _ gb157 169 #[.int .i64 0, .int .i64 0, .int .i64 0, .slice none 0 0, .int .i64 0, .bool false] (0, 0) _ rfl (zk6 BK157.out) Tryz.underlying169 rfl (by kernel_rfl)) rfl ?_
           exact ⟨_, zE, by first | exact Kd.R_nil _ _ _ _ _ | exact Kd.N_nil _ _ _ _ _ | exact Kd.V_nil _ _ _ _ _ | exact Kd.Q_nil _ _ _ _ _ | exact Kd.S_nil _ _ _ _ _, zW HB.out⟩
         ·have H' := Aside0.mk H
          clear H
          have hnb57 := NB169_157.out
          have hnc57 := NB157_169.out
          have hnb58 := NB169_165.out
          have hnc58 := NB165_169.out
          obtain ⟨hcz59_0, hcz59_1, hcz59_2, hcz59_3, hcz59_4, hcz59_5, hfz59_0, hfz59_1, hfz59_2, hfz59_3, hfz59_4, hfz59_5⟩ := ze6 BK169.out
          go_wp2
          go_loopg [10] kj29 (fun kq v10 w' => ∃ (x10_5 : Int) (x158000_5 : Int) (x158001_5 : Int) (x158002_5 : Int) (x158004_5 : Int) (x158005_5 : Bool), v10 = .int .i64 x10_5 ∧ Aside0 (spec_l4Read.l1 kq t166 x7_3 x10_5 0 0 0 x170004_3 false = some (r1, r2, r3, r4, r5, r6)) ∧ Aside0 (kq ≤ kj29) ∧ Aside0 (Kd.R Kd.string 9 w' w.heap.size (fun k_ => some k_ ≠ ((.slice Ao9 t161.length co9) : Value).ownBlock) (.slice Ao23 t166.length co23) t166) ∧ Aside0 (Kd.R (Kd.int .i64) 3 w' w.heap.size (fun _ => True) v171 x7_3) ∧ Aside0 (Kd.R Kd.string 9 w' w.heap.size (fun k_ => some k_ ≠ ((.slice Ao23 t166.length co23) : Value).ownBlock) (.slice Ao9 t161.length co9) t161) ∧ Aside0 (w'.heap[gb157]? = some (.cells #[.int .i64 x158000_5, .int .i64 x158001_5, .int .i64 x158002_5, (.slice none 0 0), .int .i64 x158004_5, .bool x158005_5] 169 (0, 0))) ∧ Aside0 (w'.heap[gb165]? = some (.cells #[.int .i64 t158, .int .i64 t159, .int .i64 t160, (.slice Ao9 t161.length co9)] 32 (0, 0))) ∧ Aside0 (w'.heap[gb169]? = some (.cells #[.int .i64 0, .int .i64 0, .int .i64 0, (.slice none 0 0), .int .i64 x170004_3, .bool false] 169 (0, 0))) ∧ Aside0 (Below w.heap.size w w'))
          case atStart => exact ⟨(x170004_3), (x158000_3), (x158001_3), (x158002_3), (x158004_3), (x158005_3), zS, H', ⟨Nat.le_refl _⟩, ⟨zR HO_5.out⟩, ⟨zR HO_7.out⟩, ⟨zR HO_166003.out⟩, ⟨zK BK157.out⟩, ⟨zK BK165.out⟩, ⟨zK BK169.out⟩, ⟨zW HB.out⟩⟩
          case round =>
           clear H'
           try clear c1
           try clear p1
           try clear q1
           try clear hx1
           try clear c2
           try clear p2
           try clear c3
           try clear c4
           try clear p4
           try clear q4
           try clear hx4
           try clear hf4
           try clear c5
           try clear p6
           try clear c7
           try clear c10
           try clear c11
           try clear c12
           try clear c15
           try clear p17
           try clear q17
           try clear hx17
           try clear c18
           try clear c19
           try clear c24
           try clear c24b0
           try clear c24b1
           try clear c25
           try clear c26
           try clear c28
           try clear c31
           try clear c31b0
           try clear c32
           try clear c32b0
           try clear c33
           try clear c34
           try clear c36
           try clear c37
           try clear c39
           try clear c40
           try clear c40b0
           try clear c41
           try clear c41b0
           try clear c43
           try clear c44
           try clear c44b0
           try clear p45
           try clear q45
           try clear hx45
           try clear hf45
           try clear c46
           try clear c47
           try clear c52
           try clear c53
           try clear c55
           try clear c57
           try clear c58
           try clear hcz12_0 hcz12_1 hcz12_2 hcz12_3 hfz12_0 hfz12_1 hfz12_2 hfz12_3
           try clear hcz13_0 hcz13_1 hcz13_2 hcz13_3 hcz13_4 hcz13_5 hfz13_0 hfz13_1 hfz13_2 hfz13_3 hfz13_4 hfz13_5
           try clear hcz20_0 hcz20_1 hcz20_2 hcz20_3 hcz20_4 hcz20_5 hfz20_0 hfz20_1 hfz20_2 hfz20_3 hfz20_4 hfz20_5
           try clear hcz27_0 hcz27_1 hcz27_2 hcz27_3 hcz27_4 hcz27_5 hfz27_0 hfz27_1 hfz27_2 hfz27_3 hfz27_4 hfz27_5
           try clear hcz29_0 hcz29_1 hcz29_2 hcz29_3 hcz29_4 hcz29_5 hfz29_0 hfz29_1 hfz29_2 hfz29_3 hfz29_4 hfz29_5
           try clear hcz35_0 hcz35_1 hcz35_2 hcz35_3 hcz35_4 hcz35_5 hfz35_0 hfz35_1 hfz35_2 hfz35_3 hfz35_4 hfz35_5
           try clear hcz38_0 hcz38_1 hcz38_2 hcz38_3 hcz38_4 hcz38_5 hfz38_0 hfz38_1 hfz38_2 hfz38_3 hfz38_4 hfz38_5
           try clear hcz48_0 hcz48_1 hcz48_2 hcz48_3 hcz48_4 hcz48_5 hfz48_0 hfz48_1 hfz48_2 hfz48_3 hfz48_4 hfz48_5
           try clear hcz51_0 hcz51_1 hcz51_2 hcz51_3 hcz51_4 hcz51_5 hfz51_0 hfz51_1 hfz51_2 hfz51_3 hfz51_4 hfz51_5
           try clear hcz54_0 hcz54_1 hcz54_2 hcz54_3 hcz54_4 hcz54_5 hfz54_0 hfz54_1 hfz54_2 hfz54_3 hfz54_4 hfz54_5
           try clear hcz56_0 hcz56_1 hcz56_2 hcz56_3 hcz56_4 hcz56_5 hfz56_0 hfz56_1 hfz56_2 hfz56_3 hfz56_4 hfz56_5
           try clear hcz59_0 hcz59_1 hcz59_2 hcz59_3 hcz59_4 hcz59_5 hfz59_0 hfz59_1 hfz59_2 hfz59_3 hfz59_4 hfz59_5
           try clear hcz8_0 hcz8_1 hcz8_2 hcz8_3 hfz8_0 hfz8_1 hfz8_2 hfz8_3
           try clear hx173_0
           try clear hx174_0
           try clear hx45_0
           try clear p1
           try clear p17
           try clear p173
           try clear p174
           try clear p2
           try clear p45
           try clear q1
           try clear q17
           try clear q173
           try clear q174
           try clear q45
           obtain ⟨x10_5, x158000_5, x158001_5, x158002_5, x158004_5, x158005_5, rfl, HA, HK5, HO_5, HO_7, HO_166003, BK157, BK165, BK169, HB⟩ := hrel
           cases gk with
           | zero => exact absurd HA.out (by simp [spec_l4Read.l1])
           | succ k5 =>
            have H := HA.out
            clear HA
            simp only [spec_l4Read.l1] at H
            replace H := zI0 H
            rcases H with ⟨c60b0, H⟩ | ⟨c60b0, H⟩
            ·replace H := zD0 H
             obtain ⟨c61b0, H⟩ := H
             replace H := zI1 H
             rcases H with ⟨c62, H⟩ | ⟨c62, H⟩
             ·have c62b0 := beq_iff_eq.mpr c62
              have c62b1 := bne_eq_false_iff_eq.mpr c62
              clear c62
              have H' := Aside0.mk H
              clear H
              have p178 : 0 ≤ (x10_5 : Int) := zD
              have q178 : x10_5 < (t166.length : Int) := zD
              obtain ⟨ad178, e178, hx178_0⟩ := Kd.at_string (Kd.R_reads' HO_5.out).2.2 x10_5 p178 q178
              cases e178
              replace p178 := eq_true p178
              replace q178 := eq_true q178
              go_wp2
              go_roundg k5
              case measure => have := HJ2.out; have := HJ14.out; have := HK3.out; have := HJ29.out; have := HK5.out; omega
              case rel => exact ⟨(wrap64 (x10_5 + 1)), (x158000_5), (x158001_5), (x158002_5), (x158004_5), (x158005_5), zS, H', ⟨by have := HJ2.out; have := HJ14.out; have := HK3.out; have := HJ29.out; have := HK5.out; omega⟩, ⟨zR HO_5.out⟩, ⟨zR HO_7.out⟩, ⟨zR HO_166003.out⟩, ⟨zK BK157.out⟩, ⟨zK BK165.out⟩, ⟨zK BK169.out⟩, ⟨zW HB.out⟩⟩
             ·have c62b0 := beq_eq_false_iff_ne.mpr c62
              have c62b1 := bne_iff_ne.mpr c62
              simp only [Option.some.injEq, Prod.mk.injEq] at H
              obtain ⟨rfl, rfl, rfl, rfl, rfl, rfl⟩ := H
              have p178 : 0 ≤ (x10_5 : Int) := zD
              have q178 : x10_5 < (t166.length : Int) := zD
              obtain ⟨ad178, e178, hx178_0⟩ := Kd.at_string (Kd.R_reads' HO_5.out).2.2 x10_5 p178 q178
              cases e178
              replace p178 := eq_true p178
              replace q178 := eq_true q178
              have hnb63 := NB157_165.out
              have hnc63 := NB165_157.out
              have hnb64 := NB157_169.out
              have hnc64 := NB169_157.out
              obtain ⟨hcz65_0, hcz65_1, hcz65_2, hcz65_3, hcz65_4, hcz65_5, hfz65_0, hfz65_1, hfz65_2, hfz65_3, hfz65_4, hfz65_5⟩ := ze6 BK157.out
              go_wp2
              refine bodyPost_ret (results_cell_row rfl _ _ gb157 169 #[.int .i64 0, .int .i64 0, .int .i64 0, .slice none 0 0, .int .i64 0, .bool false] (0, 0) _ rfl (zk6 BK157.out) Tryz.underlying169 rfl (by kernel_rfl)) rfl ?_
              exact ⟨_, zE, by first | exact Kd.R_nil _ _ _ _ _ | exact Kd.N_nil _ _ _ _ _ | exact Kd.V_nil _ _ _ _ _ | exact Kd.Q_nil _ _ _ _ _ | exact Kd.S_nil _ _ _ _ _, zW HB.out⟩
            ·replace H := zC0 H
             obtain ⟨c66, H⟩ := H
             have c66b0 := decide_eq_true c66
             have c66b1 : decide (0 < x7_3.length) = true := decide_eq_true (by omega)
             clear c66
             replace H := zC0 H
             obtain ⟨c67, H⟩ := H
             have c67b0 := decide_eq_true c67
             have c67b1 : decide (1 < x7_3.length) = true := decide_eq_true (by omega)
             clear c67
             replace H := zC0 H
             obtain ⟨c68, H⟩ := H
             have c68b0 := decide_eq_true c68
             have c68b1 : decide (2 < x7_3.length) = true := decide_eq_true (by omega)
             clear c68
             replace H := zj H
             obtain ⟨t182, A69, H⟩ := H
             try dsimp only at H
             simp only [Option.some.injEq, Prod.mk.injEq] at H
             obtain ⟨rfl, rfl, rfl, rfl, rfl, rfl⟩ := H
             try go_wp2
             replace HO_5 := zA (Kd.R_drew HO_5.out)
             replace HO_7 := zA (Kd.R_drew HO_7.out)
             replace HO_166003 := zA (Kd.R_drew HO_166003.out)
             replace BK157 := zA (blk_drew BK157.out)
             replace BK165 := zA (blk_drew BK165.out)
             replace BK169 := zA (blk_drew BK169.out)
             replace HB := zA (below_drew1 HB.out)
             obtain ⟨Ao71, co71, eo71⟩ := Kd.R_slice HO_7.out
             (first | subst eo71 | (injection eo71 with f1_ f2_ f3_; have f4_ := f1_.symm; have f5_ := f3_.symm; clear f1_ f2_ f3_; subst f4_; subst f5_))
             have p179 : 0 ≤ (0 : Int) := (by omega)
             have q179 : 0 < (x7_3.length : Int) := zD
             obtain ⟨ad179, e179, hx179_0⟩ := Kd.at_int (Kd.R_reads' HO_7.out).2.2 0 p179 q179
             cases e179
             have qi179 : (0 < x7_3.length) = True := eq_true (by omega)
             (try rw [show ((0 : Int)).toNat = 0 from rfl] at hx179_0)
             (try rw [Addr.add_zero'] at hx179_0)
             replace p179 := eq_true p179
             replace q179 := eq_true q179
             have p180 : 0 ≤ (1 : Int) := (by omega)
             have q180 : 1 < (x7_3.length : Int) := zD
             obtain ⟨ad180, e180, hx180_0⟩ := Kd.at_int (Kd.R_reads' HO_7.out).2.2 1 p180 q180
             obtain rfl : ad179 = ad180 := (by injection e180)
             (try simp only [show (1 : Int).toNat = 1 from rfl, Nat.reduceMul, Nat.reduceEqDiff, Go.Addr.add, ↓reduceIte] at hx180_0)
             have qi180 : (1 < x7_3.length) = True := eq_true (by omega)
             (try rw [show ((1 : Int)).toNat = 1 from rfl] at hx180_0)
             replace p180 := eq_true p180
             replace q180 := eq_true q180
             have p181 : 0 ≤ (2 : Int) := (by omega)
             have q181 : 2 < (x7_3.length : Int) := zD
             obtain ⟨ad181, e181, hx181_0⟩ := Kd.at_int (Kd.R_reads' HO_7.out).2.2 2 p181 q181
             obtain rfl : ad179 = ad181 := (by injection e181)
             (try simp only [show (2 : Int).toNat = 2 from rfl, Nat.reduceMul, Nat.reduceEqDiff, Go.Addr.add, ↓reduceIte] at hx181_0)
             have qi181 : (2 < x7_3.length) = True := eq_true (by omega)
             (try rw [show ((2 : Int)).toNat = 2 from rfl] at hx181_0)
             replace p181 := eq_true p181
             replace q181 := eq_true q181
             refine start_ (n := 12) (S := fun w' => w'.cell? ad179 = some (.int .i64 (rd x7_3 0)) ∧ w'.cell? ⟨ad179.block, ad179.off + 1, none⟩ = some (.int .i64 (rd x7_3 1)) ∧ w'.cell? ⟨ad179.block, ad179.off + 2, none⟩ = some (.int .i64 (rd x7_3 2))) (ds := []) (Array.replicate 12 false) (by kernel_rfl) rfl rfl ⟨hx179_0, hx180_0, hx181_0⟩ (fun hHeld => ?_); refine with_tabW spec_l4Read.tab20 spec_l4Read.bits20 (fun HT_ HW_ => ?_)
             generalize wr.drew = w70 at HO_5 HO_7 HO_166003 BK157 BK165 BK169 HB hx179_0 hx180_0 hx181_0 hHeld ⊢
             refine zp 0 75 ?_
             refine zp 1 76 ?_
             refine zp 3 78 ?_
             refine zp 4 79 ?_
             refine zp 6 81 ?_
             refine zp 7 82 ?_
             refine zt 2 77 ?_
             refine zt 5 80 ?_
             refine zt 8 83 ?_
             refine zp 9 84 ?_
             refine zp 10 85 ?_
             refine zo 11 none fun K hK => ?_
             have hs72 := zc0 BK169.out
             have hfs72 := zF BK169.out 0
             have hns72_0 := NB157_169.out
             have hns72_1 := NB165_169.out
             have hms72_0 := NB169_157.out
             have hms72_1 := NB169_165.out
             have hs73 := zc1 BK169.out
             have hfs73 := zF BK169.out 1
             have hns73_0 := NB157_169.out
             have hns73_1 := NB165_169.out
             have hms73_0 := NB169_157.out
             have hms73_1 := NB169_165.out
             have hs74 := zc2 BK169.out
             have hfs74 := zF BK169.out 2
             have hns74_0 := NB157_169.out
             have hns74_1 := NB165_169.out
             have hms74_0 := NB169_157.out
             have hms74_1 := NB169_165.out
             have hs75 := zc3 BK169.out
             have hfs75 := zF BK169.out 3
             have hns75_0 := NB157_169.out
             have hns75_1 := NB165_169.out
             have hms75_0 := NB169_157.out
             have hms75_1 := NB169_165.out
             refine skip_ (w1 := ?_) (by rfl) rfl ?_ ?_
             rotate_left
             ·go_simp
              rfl
             refine hK.out _ _ ⟨((cell_far (p := ⟨gb169, _, none⟩) (by first | (rw [add_block]; exact Kd.own_blk (Kd.R_ne HO_7.out BK169.out (by decide))) | (dsimp only; exact Kd.own_blk (Kd.R_ne HO_7.out BK169.out (by decide))) | exact Kd.own_blk (Kd.R_ne HO_7.out BK169.out (by decide)) | (show (Addr.add _ _).block ≠ _; rw [add_block]; exact Kd.own_blk (Kd.R_ne HO_7.out BK169.out (by decide)))) _).trans (((cell_far (p := ⟨gb169, _, none⟩) (by first | (rw [add_block]; exact Kd.own_blk (Kd.R_ne HO_7.out BK169.out (by decide))) | (dsimp only; exact Kd.own_blk (Kd.R_ne HO_7.out BK169.out (by decide))) | exact Kd.own_blk (Kd.R_ne HO_7.out BK169.out (by decide)) | (show (Addr.add _ _).block ≠ _; rw [add_block]; exact Kd.own_blk (Kd.R_ne HO_7.out BK169.out (by decide)))) _).trans (((cell_far (p := ⟨gb169, _, none⟩) (by first | (rw [add_block]; exact Kd.own_blk (Kd.R_ne HO_7.out BK169.out (by decide))) | (dsimp only; exact Kd.own_blk (Kd.R_ne HO_7.out BK169.out (by decide))) | exact Kd.own_blk (Kd.R_ne HO_7.out BK169.out (by decide)) | (show (Addr.add _ _).block ≠ _; rw [add_block]; exact Kd.own_blk (Kd.R_ne HO_7.out BK169.out (by decide)))) _).trans (((cell_far (p := ⟨gb169, _, none⟩) (by first | (rw [add_block]; exact Kd.own_blk (Kd.R_ne HO_7.out BK169.out (by decide))) | (dsimp only; exact Kd.own_blk (Kd.R_ne HO_7.out BK169.out (by decide))) | exact Kd.own_blk (Kd.R_ne HO_7.out BK169.out (by decide)) | (show (Addr.add _ _).block ≠ _; rw [add_block]; exact Kd.own_blk (Kd.R_ne HO_7.out BK169.out (by decide)))) _).trans (hHeld.1)))))))), ((cell_far (p := ⟨gb169, _, none⟩) (by first | (rw [add_block]; exact Kd.own_blk (Kd.R_ne HO_7.out BK169.out (by decide))) | (dsimp only; exact Kd.own_blk (Kd.R_ne HO_7.out BK169.out (by decide))) | exact Kd.own_blk (Kd.R_ne HO_7.out BK169.out (by decide)) | (show (Addr.add _ _).block ≠ _; rw [add_block]; exact Kd.own_blk (Kd.R_ne HO_7.out BK169.out (by decide)))) _).trans (((cell_far (p := ⟨gb169, _, none⟩) (by first | (rw [add_block]; exact Kd.own_blk (Kd.R_ne HO_7.out BK169.out (by decide))) | (dsimp only; exact Kd.own_blk (Kd.R_ne HO_7.out BK169.out (by decide))) | exact Kd.own_blk (Kd.R_ne HO_7.out BK169.out (by decide)) | (show (Addr.add _ _).block ≠ _; rw [add_block]; exact Kd.own_blk (Kd.R_ne HO_7.out BK169.out (by decide)))) _).trans (((cell_far (p := ⟨gb169, _, none⟩) (by first | (rw [add_block]; exact Kd.own_blk (Kd.R_ne HO_7.out BK169.out (by decide))) | (dsimp only; exact Kd.own_blk (Kd.R_ne HO_7.out BK169.out (by decide))) | exact Kd.own_blk (Kd.R_ne HO_7.out BK169.out (by decide)) | (show (Addr.add _ _).block ≠ _; rw [add_block]; exact Kd.own_blk (Kd.R_ne HO_7.out BK169.out (by decide)))) _).trans (((cell_far (p := ⟨gb169, _, none⟩) (by first | (rw [add_block]; exact Kd.own_blk (Kd.R_ne HO_7.out BK169.out (by decide))) | (dsimp only; exact Kd.own_blk (Kd.R_ne HO_7.out BK169.out (by decide))) | exact Kd.own_blk (Kd.R_ne HO_7.out BK169.out (by decide)) | (show (Addr.add _ _).block ≠ _; rw [add_block]; exact Kd.own_blk (Kd.R_ne HO_7.out BK169.out (by decide)))) _).trans (hHeld.2.1)))))))), ((cell_far (p := ⟨gb169, _, none⟩) (by first | (rw [add_block]; exact Kd.own_blk (Kd.R_ne HO_7.out BK169.out (by decide))) | (dsimp only; exact Kd.own_blk (Kd.R_ne HO_7.out BK169.out (by decide))) | exact Kd.own_blk (Kd.R_ne HO_7.out BK169.out (by decide)) | (show (Addr.add _ _).block ≠ _; rw [add_block]; exact Kd.own_blk (Kd.R_ne HO_7.out BK169.out (by decide)))) _).trans (((cell_far (p := ⟨gb169, _, none⟩) (by first | (rw [add_block]; exact Kd.own_blk (Kd.R_ne HO_7.out BK169.out (by decide))) | (dsimp only; exact Kd.own_blk (Kd.R_ne HO_7.out BK169.out (by decide))) | exact Kd.own_blk (Kd.R_ne HO_7.out BK169.out (by decide)) | (show (Addr.add _ _).block ≠ _; rw [add_block]; exact Kd.own_blk (Kd.R_ne HO_7.out BK169.out (by decide)))) _).trans (((cell_far (p := ⟨gb169, _, none⟩) (by first | (rw [add_block]; exact Kd.own_blk (Kd.R_ne HO_7.out BK169.out (by decide))) | (dsimp only; exact Kd.own_blk (Kd.R_ne HO_7.out BK169.out (by decide))) | exact Kd.own_blk (Kd.R_ne HO_7.out BK169.out (by decide)) | (show (Addr.add _ _).block ≠ _; rw [add_block]; exact Kd.own_blk (Kd.R_ne HO_7.out BK169.out (by decide)))) _).trans (((cell_far (p := ⟨gb169, _, none⟩) (by first | (rw [add_block]; exact Kd.own_blk (Kd.R_ne HO_7.out BK169.out (by decide))) | (dsimp only; exact Kd.own_blk (Kd.R_ne HO_7.out BK169.out (by decide))) | exact Kd.own_blk (Kd.R_ne HO_7.out BK169.out (by decide)) | (show (Addr.add _ _).block ≠ _; rw [add_block]; exact Kd.own_blk (Kd.R_ne HO_7.out BK169.out (by decide)))) _).trans (hHeld.2.2))))))))⟩ (fun hHeld => ?_)
             clear hK K
             refine done_ (done_of HT_.out (by kernel_rfl)) ?_
             have hnb76 := NB169_157.out
             have hnc76 := NB157_169.out
             have hnb77 := NB169_165.out
             have hnc77 := NB165_169.out
             obtain ⟨hcz78_0, hcz78_1, hcz78_2, hcz78_3, hcz78_4, hcz78_5, hfz78_0, hfz78_1, hfz78_2, hfz78_3, hfz78_4, hfz78_5⟩ := ze6 BK169.out
             try go_wp2_with (first | ((with_reducible refine zq 104 ?_); refine zg (some 88) Tryz.func104 #[.int .i64 x170004_3, .int .i64 1, .int .i64 2] ?_; (with_reducible refine (spec_l1In.calls x170004_3 1 2 t182 _ A69.out).mono ?_); rintro e w' ⟨rfl, ⟨nd, rfl⟩⟩; refine ⟨_, rfl, ?_⟩; have hnb79 := NB157_165.out; have hnc79 := NB165_157.out; obtain ⟨hcz80_0, hcz80_1, hcz80_2, hcz80_3, hcz80_4, hcz80_5, hfz80_0, hfz80_1, hfz80_2, hfz80_3, hfz80_4, hfz80_5⟩ := ze6 BK157.out))
             refine bodyPost_ret (results_cell_row rfl _ _ gb157 169 #[.int .i64 (rd x7_3 0), .int .i64 (rd x7_3 1), .int .i64 (rd x7_3 2), .slice none 0 0, .int .i64 x170004_3, .bool t182] (0, 0) _ rfl (zk6 BK157.out) Tryz.underlying169 rfl (by kernel_rfl)) rfl ?_
             exact ⟨_, zE, by first | exact Kd.R_nil _ _ _ _ _ | exact Kd.N_nil _ _ _ _ _ | exact Kd.V_nil _ _ _ _ _ | exact Kd.Q_nil _ _ _ _ _ | exact Kd.S_nil _ _ _ _ _, zW HB.out⟩
end Go.Proofs.YtpcdhoeoefoeoaaGreatDoor.PGA
