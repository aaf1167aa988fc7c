/- The walks of the functions that these laws reach, and what each comes to: printed by this session's program. -/
import Derived.Deep.CutBlock
import Derived.Test.YtpcdhoeoefoeoaaGreatDoorZGAPGAx0
import Derived.Test.YtpcdhoeoefoeoaaGreatDoorZGAPGAx2
import Derived.Test.YtpcdhoeoefoeoaaGreatDoorZGASays
namespace Go.Proofs.YtpcdhoeoefoeoaaGreatDoor.PGA
open Go.RowKit YtpcdhoeoefoeoaaGreatDoorW.PrintWords YtpcdhoeoefoeoaaGreatDoorW.PrintLast YtpcdhoeoefoeoaaGreatDoorW.PrintMore
attribute [local go_sem high] Mine.str_gtr Mine.str_leq Mine.str_geq
attribute [local go_sem] max2_int min2_int max_two min_two max_three min_three max_four min_four   -- for this text's walks alone
set_option linter.unusedVariables false
set_option maxHeartbeats 8000000
set_option maxRecDepth 100000
set_option linter.unusedSimpArgs false
/-! ### spec_ParseVer: function 124 -/
mutual
def spec_ParseVer.j1 : Nat → ByteArray → Int → Int → Int → Int → Option (Int × Int × Int × List ByteArray × Bool)
 | 0, _, _, _, _, _ => none
 | k + 1, x0, x5, x141000, x141001, x141002 => if x5 < (x0.size : Int) then (if 0 ≤ (wrap64 (x5 + 1)) then (if (wrap64 (x5 + 1)) ≤ (x0.size : Int) then ((spec_Split.f k (x0.extract ((wrap64 (x5 + 1)) : Int).toNat x0.size) 46).bind fun t141 => (spec_ParseVer.j2 k x0 x5 x141000 x141001 x141002 t141)) else (none)) else (none)) else (spec_ParseVer.j2 k x0 x5 x141000 x141001 x141002 ([] : List ByteArray))
def spec_ParseVer.j2 : Nat → ByteArray → Int → Int → Int → Int → List ByteArray → Option (Int × Int × Int × List ByteArray × Bool)
 | 0, _, _, _, _, _, _ => none
 | k + 1, x0, x5, x141000, x141001, x141002, x141003 => if 0 ≤ x5 then (if x5 ≤ (x0.size : Int) then ((spec_Split.f k (x0.extract 0 (x5 : Int).toNat) 46).bind fun t144 => (if (t144.length : Int) = 3 then (spec_ParseVer.j3 k t144 x141000 x141001 x141002 x141003) else (some (0, 0, 0, ([] : List ByteArray), false)))) else (none)) else (none)
def spec_ParseVer.j3 : Nat → List ByteArray → Int → Int → Int → List ByteArray → Option (Int × Int × Int × List ByteArray × Bool)
 | 0, _, _, _, _, _ => none
 | k + 1, x6, x141000, x141001, x141002, x141003 => if 0 < (x6.length : Int) then ((spec_ParseNum.f k (rdOf ByteArray.empty x6 0) 9999).bind fun bt148 => (if 1 < (x6.length : Int) then ((spec_ParseNum.f k (rdOf ByteArray.empty x6 1) 9999).bind fun bt151 => (if 2 < (x6.length : Int) then ((spec_ParseNum.f k (rdOf ByteArray.empty x6 2) 9999).bind fun bt154 => (if bt148.2 = true then (if bt151.2 = true then (if bt154.2 = true then ((spec_VerOk.f k bt148.1 bt151.1 bt154.1 x141003).bind fun t156 => (if t156 = true then (some (bt148.1, bt151.1, bt154.1, x141003, true)) else (some (0, 0, 0, ([] : List ByteArray), false)))) else (some (0, 0, 0, ([] : List ByteArray), false))) else (some (0, 0, 0, ([] : List ByteArray), false))) else (some (0, 0, 0, ([] : List ByteArray), false)))) else (none))) else (none))) else (none)
def spec_ParseVer.l0 : Nat → ByteArray → Int → Int → Int → Int → Option (Int × Int × Int × List ByteArray × Bool)
 | 0, _, _, _, _, _ => none
 | k + 1, x0, x5, x141000, x141001, x141002 => if x5 < (x0.size : Int) then (if 0 ≤ x5 then (if (bt x0 x5) = 45 then (spec_ParseVer.j1 k x0 x5 x141000 x141001 x141002) else (spec_ParseVer.l0 k x0 (wrap64 (x5 + 1)) x141000 x141001 x141002)) else (none)) else (spec_ParseVer.j1 k x0 x5 x141000 x141001 x141002)
end
def spec_ParseVer.f (k : Nat) (a0 : ByteArray) : Option (Int × Int × Int × List ByteArray × Bool) := spec_ParseVer.l0 k a0 0 0 0 0
theorem spec_ParseVer.calls (k : Nat) (a0 : ByteArray) (r1 r2 r3 : Int) (r4 : List ByteArray) (r5 : Bool) (w : World) (h : spec_ParseVer.f k a0 = some (r1, r2, r3, r4, r5)) :
  Calls Tryz.prog 124 #[.string a0] w fun e w' => ∃ v3_ : Value, e = .returned (.tuple #[.agg #[.int .i64 r1, .int .i64 r2, .int .i64 r3, v3_], .bool r5]) ∧ Kd.R Kd.string 9 w' w.heap.size (fun _ => True) v3_ r4 ∧ Below w.heap.size w w' := by
 have hu32 := Tryz.underlying32
 have HB := zA (Below.refl w.heap.size w)
 unfold spec_ParseVer.f at h
 have H := h
 clear h
 have HC2 := Aside0.mk H
 clear H
 go_enter Tryz.func124, Tryz.ntmps124
 go_upto_block 0 with (first | ((with_reducible refine zd 2 ?_); refine ze 2 32 #[.int .i64 0, .int .i64 0, .int .i64 0, .slice none 0 0] ?_; intro gb139 hg w3 hbox hb; have BK139 := zA (hbox); have GW139 := zi HB hg; have GE139 := zi HB hg; replace HB := zA (below_step (zB) hb); clear hb hbox hg) | ((with_reducible refine zd 4 ?_); refine ze 4 32 #[.int .i64 0, .int .i64 0, .int .i64 0, .slice none 0 0] ?_; intro gb140 hg w4 hbox hb; have BK140 := zA (hbox); have GW140 := zi HB hg; have GE140 := zi HB hg; replace HB := zh HB hb; have NB139_140 := zA (zL hg (zK BK139.out)); have NB140_139 := zA (zJ hg (zK BK139.out)); replace BK139 := zb BK139 hb; clear hb hbox hg; have hnb5 := NB140_139.out; have hnc5 := NB139_140.out; obtain ⟨hcz6_0, hcz6_1, hcz6_2, hcz6_3, hfz6_0, hfz6_1, hfz6_2, hfz6_3⟩ := ze4 BK140.out))
 (try simp only [Act.put, zT])
 go_cut [5] (fun v5 wc => ∃ (kq : Nat) (x5_1 : Int), v5 = .int .i64 x5_1 ∧ Aside0 (spec_ParseVer.j1 kq a0 x5_1 0 0 0 = some (r1, r2, r3, r4, r5)) ∧ Aside0 (kq ≤ k) ∧ Aside0 (wc.heap[gb139]? = some (.cells #[.int .i64 0, .int .i64 0, .int .i64 0, (.slice none 0 0)] 32 (0, 0))) ∧ Aside0 (wc.heap[gb140]? = some (.cells #[.int .i64 0, .int .i64 0, .int .i64 0, (.slice none 0 0)] 32 (0, 0))) ∧ Aside0 (Below w.heap.size w wc))
 case first =>
  have H := HC2.out
  clear HC2
  have H' := Aside0.mk H
  clear H
  go_wp2
  go_loopg [5] k (fun kq v5 w' => ∃ (x5_1 : Int), v5 = .int .i64 x5_1 ∧ Aside0 (spec_ParseVer.l0 kq a0 x5_1 0 0 0 = some (r1, r2, r3, r4, r5)) ∧ Aside0 (kq ≤ k) ∧ Aside0 (w'.heap[gb139]? = some (.cells #[.int .i64 0, .int .i64 0, .int .i64 0, (.slice none 0 0)] 32 (0, 0))) ∧ Aside0 (w'.heap[gb140]? = some (.cells #[.int .i64 0, .int .i64 0, .int .i64 0, (.slice none 0 0)] 32 (0, 0))) ∧ Aside0 (Below w.heap.size w w'))
  case atStart => exact ⟨(0), zS, H', ⟨Nat.le_refl _⟩, ⟨zK BK139.out⟩, ⟨zk4 BK140.out⟩, ⟨zW HB.out⟩⟩
  case round =>
   clear H'
   try clear c1
   try clear p2
   try clear c5
   try clear hcz6_0 hcz6_1 hcz6_2 hcz6_3 hfz6_0 hfz6_1 hfz6_2 hfz6_3
   obtain ⟨x5_1, rfl, HA, HK1, BK139, BK140, HB⟩ := hrel
   cases gk with
   | zero => exact absurd HA.out (by simp [spec_ParseVer.l0])
   | succ k1 =>
    have H := HA.out
    clear HA
    simp only [spec_ParseVer.l0] at H
    replace H := zI0 H
    rcases H with ⟨c7b0, H⟩ | ⟨c7b0, H⟩
    ·(first | rw [c7b0] | (simp only [i64_w, i32_w]; rw [c7b0]) | skip)
     replace H := zD0 H
     obtain ⟨c8b0, H⟩ := H
     replace H := zI1 H
     rcases H with ⟨c10, H⟩ | ⟨c10, H⟩
     ·have c10b0 := beq_iff_eq.mpr c10
      have c10b1 := bne_eq_false_iff_eq.mpr c10
      clear c10
      have H' := Aside0.mk H
      clear H
      have p9 : 0 ≤ (x5_1 : Int) := zD
      have q9 : x5_1 < (a0.size : Int) := zD
      have hx9 := bt_at a0 x5_1
      replace p9 := eq_true p9
      replace q9 := eq_true q9
      go_wp2
      go_meet
      case rel => exact ⟨_, (x5_1), zS, (by first | exact H' | (subst_vars; exact H')), ⟨by have := HK1.out; first | omega | exact Nat.le_refl _⟩, ⟨zK BK139.out⟩, ⟨zK BK140.out⟩, ⟨zW HB.out⟩⟩
     ·have c10b0 := beq_eq_false_iff_ne.mpr c10
      have c10b1 := bne_iff_ne.mpr c10
      have H' := Aside0.mk H
      clear H
      have p9 : 0 ≤ (x5_1 : Int) := zD
      have q9 : x5_1 < (a0.size : Int) := zD
      have hx9 := bt_at a0 x5_1
      replace p9 := eq_true p9
      replace q9 := eq_true q9
      go_wp2
      go_roundg k1
      case measure => have := HK1.out; omega
      case rel => exact ⟨(wrap64 (x5_1 + 1)), zS, H', ⟨by have := HK1.out; omega⟩, ⟨zK BK139.out⟩, ⟨zK BK140.out⟩, ⟨zW HB.out⟩⟩
    ·(first | rw [c7b0] | (simp only [i64_w, i32_w]; rw [c7b0]) | skip)
     have H' := Aside0.mk H
     clear H
     go_wp2
     go_meet
     case rel => exact ⟨_, (x5_1), zS, (by first | exact H' | (subst_vars; exact H')), ⟨by have := HK1.out; first | omega | exact Nat.le_refl _⟩, ⟨zK BK139.out⟩, ⟨zK BK140.out⟩, ⟨zW HB.out⟩⟩
 case rest =>
  clear HC2
  try clear c1
  try clear p2
  try clear c5
  try clear p6
  try clear c7
  try clear c7b0
  try clear c8
  try clear c8b0
  try clear p9
  try clear q9
  try clear hx9
  try clear c10
  try clear c10b0
  try clear c10b1
  try clear hcz6_0 hcz6_1 hcz6_2 hcz6_3 hfz6_0 hfz6_1 hfz6_2 hfz6_3
  try clear p2
  try clear p9
  try clear q9
  obtain ⟨kq, x5_1, rfl, HA, HJ1, BK139, BK140, HB⟩ := hcut
  cases kq with
  | zero => exact absurd HA.out (by simp [spec_ParseVer.j1])
  | succ kj1 =>
   have H := HA.out
   clear HA
   simp only [spec_ParseVer.j1] at H
   have HC11 := Aside0.mk H
   clear H
   go_upto_if 29 with (fail)
   go_cut [] (fun wc => ∃ (kq : Nat) (x141003_10 : List ByteArray) (u141003 : Value), Aside0 (spec_ParseVer.j2 kq a0 x5_1 0 0 0 x141003_10 = some (r1, r2, r3, r4, r5)) ∧ Aside0 (kq ≤ kj1) ∧ Aside0 (Kd.R Kd.string 9 wc w.heap.size (fun _ => True) u141003 x141003_10) ∧ Aside0 (wc.heap[gb139]? = some (.cells #[.int .i64 0, .int .i64 0, .int .i64 0, (.slice none 0 0)] 32 (0, 0))) ∧ Aside0 (wc.heap[gb140]? = some (.cells #[.int .i64 0, .int .i64 0, .int .i64 0, u141003] 32 (0, 0))) ∧ Aside0 (Below w.heap.size w wc))
   case first =>
    have H := HC11.out
    clear HC11
    replace H := zI0 H
    rcases H with ⟨c12b0, H⟩ | ⟨c12b0, H⟩
    ·(first | rw [c12b0] | (simp only [i64_w, i32_w]; rw [c12b0]) | skip)
     obtain ⟨ji13, hji13⟩ : ∃ j_ : Int, (wrap64 (x5_1 + 1)) = j_ := ⟨_, rfl⟩
     replace H : (if 0 ≤ (ji13) then (if (ji13) ≤ (a0.size : Int) then ((spec_Split.f kj1 (a0.extract ((ji13) : Int).toNat a0.size) 46).bind fun t141 => (spec_ParseVer.j2 kj1 a0 x5_1 0 0 0 t141)) else (none)) else (none)) = some (r1, r2, r3, r4, r5) := by first | (rw [hji13] at H; exact H) | (simp only [hji13] at H ⊢; exact H)
     have hji13w : (IntKind.i64.wrap (x5_1 + 1)) = ji13 := (i64_w _).trans hji13
     replace H := zC0 H
     obtain ⟨c14, H⟩ := H
     have c14b0 := eq_true c14
     have c14b1 := decide_eq_true c14
     clear c14
     replace H := zC0 H
     obtain ⟨c15, H⟩ := H
     have c15b0 := eq_true c15
     have c15b1 := decide_eq_true c15
     clear c15
     replace H := zj H
     obtain ⟨t141, A16, H⟩ := H
     try dsimp only at H
     have H' := Aside0.mk H
     clear H
     go_wp2_with (first | ((with_reducible refine gate_callee (f := 78) rfl ?_); refine goesL_ (some 34) rfl rfl Tryz.func78 (by kernel_rfl) rfl #[.string (a0.extract ((ji13) : Int).toNat a0.size), .int .u8 46] rfl (by (try simp only [List.map_toArray, List.map_cons, List.map_nil]); first | done | (simp only [hji13]; rfl) | rfl | (simp only [List.length_drop, List.length_take]; rfl)) ?_; (with_reducible refine (spec_Split.calls kj1 (a0.extract ((ji13) : Int).toNat a0.size) 46 t141 _ A16.out).mono ?_); rintro e w17 ⟨v142, rfl, ho0, hb⟩; refine ⟨_, rfl, ?_⟩; have HO143 := zA (Kd.R_lower ho0 (below_size (zW HB.out))); replace BK139 := zb BK139 hb; replace BK140 := zb BK140 hb; replace HB := zh HB hb; (try clear hb ho0); obtain ⟨Ao18, co18, eo18⟩ := Kd.R_slice HO143.out; subst eo18; have hnb19 := NB140_139.out; have hnc19 := NB139_140.out; obtain ⟨hcz20_0, hcz20_1, hcz20_2, hcz20_3, hfz20_0, hfz20_1, hfz20_2, hfz20_3⟩ := ze4 BK140.out))
     go_meet
     case rel => exact ⟨_, (t141), (.slice Ao18 t141.length co18), (by first | exact H' | (subst_vars; exact H')), ⟨by have := HJ1.out; first | omega | exact Nat.le_refl _⟩, ⟨zR (Kd.R_mono (Kd.R_far (p := ⟨gb140, 3, none⟩) (Kd.R_types HO143.out BK140.out (by decide)) (fun _ hk => hk.2) (.slice Ao18 t141.length co18)) (fun _ hk => trivial))⟩, ⟨zK BK139.out⟩, ⟨by (with_reducible repeat (first | refine blk_drewN ?_ _ | refine blk_drew ?_ | refine blk_alloc ?_ _)); refine blk_put (cs := #[.int .i64 0, .int .i64 0, .int .i64 0, .slice none 0 0]) ?_ 3 _ rfl; (with_reducible repeat (first | refine blk_drewN ?_ _ | refine blk_drew ?_ | refine blk_alloc ?_ _)); exact BK140.out⟩, ⟨zW HB.out⟩⟩
    ·(first | rw [c12b0] | (simp only [i64_w, i32_w]; rw [c12b0]) | skip)
     have H' := Aside0.mk H
     clear H
     go_wp2
     go_meet
     case rel => exact ⟨_, (([] : List ByteArray)), (.slice none 0 0), (by first | exact H' | (subst_vars; exact H')), ⟨by have := HJ1.out; first | omega | exact Nat.le_refl _⟩, ⟨by first | exact Kd.R_nil _ _ _ _ _ | exact Kd.N_nil _ _ _ _ _ | exact Kd.V_nil _ _ _ _ _ | exact Kd.Q_nil _ _ _ _ _ | exact Kd.S_nil _ _ _ _ _⟩, ⟨zK BK139.out⟩, ⟨zK BK140.out⟩, ⟨zW HB.out⟩⟩
   case rest =>
    clear HC11
    try clear c1
    try clear p2
    try clear c5
    try clear p6
    try clear c7
    try clear c7b0
    try clear c8
    try clear c8b0
    try clear p9
    try clear q9
    try clear hx9
    try clear c10
    try clear c10b0
    try clear c10b1
    try clear c12
    try clear c12b0
    try clear c14
    try clear c14b0
    try clear c14b1
    try clear c15
    try clear c15b0
    try clear c15b1
    try clear c19
    try clear hcz20_0 hcz20_1 hcz20_2 hcz20_3 hfz20_0 hfz20_1 hfz20_2 hfz20_3
    try clear hcz6_0 hcz6_1 hcz6_2 hcz6_3 hfz6_0 hfz6_1 hfz6_2 hfz6_3
    try clear p2
    try clear p6
    try clear p9
    try clear q9
    obtain ⟨kq, x141003_10, u141003, HA, HJ10, HO_141003, BK139, BK140, HB⟩ := hcut
    cases kq with
    | zero => exact absurd HA.out (by simp [spec_ParseVer.j2])
    | succ kj10 =>
     have H := HA.out
     clear HA
     simp only [spec_ParseVer.j2] at H
     replace H := zC0 H
     obtain ⟨c21, H⟩ := H
     have c21b0 := eq_true c21
     have c21b1 := decide_eq_true c21
     clear c21
     replace H := zC0 H
     obtain ⟨c22, H⟩ := H
     have c22b0 := eq_true c22
     have c22b1 := decide_eq_true c22
     clear c22
     replace H := zj H
     obtain ⟨t144, A23, H⟩ := H
     try dsimp only at H
     have HC24 := Aside0.mk H
     clear H
     go_upto_if 42 with (first | ((with_reducible refine zq 78 ?_); refine zg (some 39) Tryz.func78 #[.string (a0.extract 0 (x5_1 : Int).toNat), .int .u8 46] ?_; (with_reducible refine (spec_Split.calls kj10 (a0.extract 0 (x5_1 : Int).toNat) 46 t144 _ A23.out).mono ?_); rintro e w25 ⟨v145, rfl, ho0, hb⟩; refine ⟨_, rfl, ?_⟩; have HO146 := zA (Kd.R_lower (Kd.R_new' ho0 (Kd.R_lt (zR HO_141003.out))) (below_size (zW HB.out))); replace HO_141003 := zA (Kd.R_elder' (zR HO_141003.out) (Kd.R_base ho0) hb); replace BK139 := zb BK139 hb; replace BK140 := zb BK140 hb; replace HB := zh HB hb; (try clear hb ho0); obtain ⟨Ao26, co26, eo26⟩ := Kd.R_slice HO146.out; subst eo26))
     (try simp only [Act.put, zT])
     go_cut [] (fun wc => ∃ (kq : Nat) (x140000_23 : Int) (x140001_23 : Int) (x140002_23 : Int), Aside0 (spec_ParseVer.j3 kq t144 0 0 0 x141003_10 = some (r1, r2, r3, r4, r5)) ∧ Aside0 (kq ≤ kj10) ∧ Aside0 (Kd.R Kd.string 9 wc w.heap.size (fun k_ => some k_ ≠ (u141003 : Value).ownBlock) (.slice Ao26 t144.length co26) t144) ∧ Aside0 (Kd.R Kd.string 9 wc w.heap.size (fun k_ => some k_ ≠ ((.slice Ao26 t144.length co26) : Value).ownBlock) u141003 x141003_10) ∧ Aside0 (wc.heap[gb139]? = some (.cells #[.int .i64 x140000_23, .int .i64 x140001_23, .int .i64 x140002_23, (.slice none 0 0)] 32 (0, 0))) ∧ Aside0 (wc.heap[gb140]? = some (.cells #[.int .i64 0, .int .i64 0, .int .i64 0, u141003] 32 (0, 0))) ∧ Aside0 (Below w.heap.size w wc))
     case first =>
      have H := HC24.out
      clear HC24
      replace H := zI1 H
      rcases H with ⟨c27, H⟩ | ⟨c27, H⟩
      ·have c27b0 := beq_iff_eq.mpr c27
       have c27b1 := bne_eq_false_iff_eq.mpr c27
       clear c27
       (first | rw [c27b0] | (simp only [i64_w, i32_w]; rw [c27b0]) | skip)
       have H' := Aside0.mk H
       clear H
       go_wp2
       go_meet
       case rel => exact ⟨_, (0), (0), (0), (by first | exact H' | (subst_vars; exact H')), ⟨by have := HJ1.out; have := HJ10.out; first | omega | exact Nat.le_refl _⟩, ⟨zR (Kd.R_mono HO146.out (fun _ hk => hk.2))⟩, ⟨zR (Kd.R_mono HO_141003.out (fun _ hk => hk.2))⟩, ⟨zK BK139.out⟩, ⟨zK BK140.out⟩, ⟨zW HB.out⟩⟩
      ·have c27b0 := beq_eq_false_iff_ne.mpr c27
       have c27b1 := bne_iff_ne.mpr c27
       (first | rw [c27b0] | (simp only [i64_w, i32_w]; rw [c27b0]) | skip)
       simp only [Option.some.injEq, Prod.mk.injEq] at H
       obtain ⟨rfl, rfl, rfl, rfl, rfl⟩ := H
       have hnb28 := NB139_140.out
       have hnc28 := NB140_139.out
       obtain ⟨hcz29_0, hcz29_1, hcz29_2, hcz29_3, hfz29_0, hfz29_1, hfz29_2, hfz29_3⟩ := ze4 BK139.out
       go_wp2
       refine bodyPost_ret (results_ct rfl _ _ gb139 32 #[.int .i64 0, .int .i64 0, .int .i64 0, .slice none 0 0] (0, 0) _ rfl (zk4 BK139.out) Tryz.underlying32 rfl (by kernel_rfl)) rfl ?_
       exact ⟨_, zE, by first | exact Kd.R_nil _ _ _ _ _ | exact Kd.N_nil _ _ _ _ _ | exact Kd.V_nil _ _ _ _ _ | exact Kd.Q_nil _ _ _ _ _ | exact Kd.S_nil _ _ _ _ _, zW HB.out⟩
     case rest =>
      clear HC24
      try clear c1
      try clear c2
      try clear p2
      try clear c5
      try clear p6
      try clear c7
      try clear c7b0
      try clear c8
      try clear c8b0
      try clear p9
      try clear q9
      try clear hx9
      try clear c10
      try clear c10b0
      try clear c10b1
      try clear c12
      try clear c12b0
      try clear c14
      try clear c14b0
      try clear c14b1
      try clear c15
      try clear c15b0
      try clear c15b1
      try clear c19
      try clear c21
      try clear c21b0
      try clear c21b1
      try clear c22
      try clear c22b0
      try clear c22b1
      try clear c27
      try clear c27b0
      try clear c27b1
      try clear c28
      try clear hcz20_0 hcz20_1 hcz20_2 hcz20_3 hfz20_0 hfz20_1 hfz20_2 hfz20_3
      try clear hcz29_0 hcz29_1 hcz29_2 hcz29_3 hfz29_0 hfz29_1 hfz29_2 hfz29_3
      try clear hcz6_0 hcz6_1 hcz6_2 hcz6_3 hfz6_0 hfz6_1 hfz6_2 hfz6_3
      try clear p2
      try clear p6
      try clear p9
      try clear q9
      obtain ⟨kq, x140000_23, x140001_23, x140002_23, HA, HJ23, HO_6, HO_141003, BK139, BK140, HB⟩ := hcut
      cases kq with
      | zero => exact absurd HA.out (by simp [spec_ParseVer.j3])
      | succ kj23 =>
       have H := HA.out
       clear HA
       simp only [spec_ParseVer.j3] at H
       replace H := zC0 H
       obtain ⟨c30, H⟩ := H
       have c30b0 := decide_eq_true c30
       have c30b1 : decide (0 < t144.length) = true := decide_eq_true (by omega)
       clear c30
       replace H := zj H
       obtain ⟨⟨t148, t149⟩, A31, H⟩ := H
       try dsimp only at H
       replace H := zC0 H
       obtain ⟨c32, H⟩ := H
       have c32b0 := decide_eq_true c32
       have c32b1 : decide (1 < t144.length) = true := decide_eq_true (by omega)
       clear c32
       replace H := zj H
       obtain ⟨⟨t151, t152⟩, A33, H⟩ := H
       try dsimp only at H
       replace H := zC0 H
       obtain ⟨c34, H⟩ := H
       have c34b0 := decide_eq_true c34
       have c34b1 : decide (2 < t144.length) = true := decide_eq_true (by omega)
       clear c34
       replace H := zj H
       obtain ⟨⟨t154, t155⟩, A35, H⟩ := H
       try dsimp only at H
       replace H := zB0 H
       rcases H with ⟨rfl, H⟩ | ⟨rfl, H⟩
       ·replace H := zB0 H
        rcases H with ⟨rfl, H⟩ | ⟨rfl, H⟩
        ·replace H := zB0 H
         rcases H with ⟨rfl, H⟩ | ⟨rfl, H⟩
         ·replace H := zj H
          obtain ⟨t156, A39, H⟩ := H
          try dsimp only at H
          replace H := zB0 H
          rcases H with ⟨rfl, H⟩ | ⟨rfl, H⟩
          ·simp only [Option.some.injEq, Prod.mk.injEq] at H
           obtain ⟨rfl, rfl, rfl, rfl, rfl⟩ := H
           have p147 : 0 ≤ (0 : Int) := (by omega)
           have q147 : 0 < (t144.length : Int) := zD
           obtain ⟨ad147, e147, hx147_0⟩ := Kd.at_string (Kd.R_reads' HO_6.out).2.2 0 p147 q147
           cases e147
           have qi147 : (0 < t144.length) = True := eq_true (by omega)
           (try rw [show ((0 : Int)).toNat = 0 from rfl] at hx147_0)
           (try rw [Addr.add_zero'] at hx147_0)
           replace p147 := eq_true p147
           replace q147 := eq_true q147
           go_wp2_with (first | ((with_reducible refine zq 152 ?_); refine zg (some 48) Tryz.func152 #[.string (rdOf ByteArray.empty t144 0), .int .i64 9999] ?_; (with_reducible refine (spec_ParseNum.calls kj23 (rdOf ByteArray.empty t144 0) 9999 t148 true _ A31.out).mono ?_); rintro e w' ⟨rfl, ⟨nd, rfl⟩⟩; refine ⟨_, rfl, ?_⟩; (try (rw [drewN_self wc]; generalize hq_ : World.drewN wc _ = wc; have n0_ : Aside0 (Kd.R Kd.string 9 wc w.heap.size (fun k_ => some k_ ≠ (.slice (some ad147) t144.length co26 : Value).ownBlock) u141003 x141003_10) := ⟨by rw [← hq_]; exact (zR HO_141003.out)⟩; have n1_ : Aside0 (Kd.R Kd.string 9 wc w.heap.size (fun k_ => some k_ ≠ (u141003 : Value).ownBlock) (.slice (some ad147) t144.length co26) t144) := ⟨by rw [← hq_]; exact (zR HO_6.out)⟩; have n2_ : Aside0 (wc.heap[gb139]? = some (.cells #[.int .i64 x140000_23, .int .i64 x140001_23, .int .i64 x140002_23, .slice none 0 0] 32 (0, 0))) := ⟨by rw [← hq_]; exact (zK BK139.out)⟩; have n3_ : Aside0 (wc.heap[gb140]? = some (.cells #[.int .i64 0, .int .i64 0, .int .i64 0, u141003] 32 (0, 0))) := ⟨by rw [← hq_]; exact (zK BK140.out)⟩; have n4_ : Aside0 (Below w.heap.size w wc) := ⟨by rw [← hq_]; exact (zW HB.out)⟩; clear HO_141003 HO_6 BK139 BK140 HB hq_; have HO_141003 := n0_; have HO_6 := n1_; have BK139 := n2_; have BK140 := n3_; have HB := n4_; clear n0_ n1_ n2_ n3_ n4_)); have p150 : 0 ≤ (1 : Int) := (by omega); have q150 : 1 < (t144.length : Int) := zD; obtain ⟨ad150, e150, hx150_0⟩ := Kd.at_string (Kd.R_reads' HO_6.out).2.2 1 p150 q150; obtain rfl : ad147 = ad150 := (by injection e150); (try simp only [show (1 : Int).toNat = 1 from rfl, Nat.reduceMul, Nat.reduceEqDiff, Go.Addr.add, ↓reduceIte] at hx150_0); have qi150 : (1 < t144.length) = True := eq_true (by omega); (try rw [show ((1 : Int)).toNat = 1 from rfl] at hx150_0); replace p150 := eq_true p150; replace q150 := eq_true q150) | ((with_reducible refine zq 152 ?_); refine zg (some 55) Tryz.func152 #[.string (rdOf ByteArray.empty t144 1), .int .i64 9999] ?_; (with_reducible refine (spec_ParseNum.calls kj23 (rdOf ByteArray.empty t144 1) 9999 t151 true _ A33.out).mono ?_); rintro e w' ⟨rfl, ⟨nd, rfl⟩⟩; refine ⟨_, rfl, ?_⟩; (try (rw [drewN_self wc]; generalize hq_ : World.drewN wc _ = wc; have n0_ : Aside0 (Kd.R Kd.string 9 wc w.heap.size (fun k_ => some k_ ≠ (.slice (some ad147) t144.length co26 : Value).ownBlock) u141003 x141003_10) := ⟨by rw [← hq_]; exact (zR HO_141003.out)⟩; have n1_ : Aside0 (Kd.R Kd.string 9 wc w.heap.size (fun k_ => some k_ ≠ (u141003 : Value).ownBlock) (.slice (some ad147) t144.length co26) t144) := ⟨by rw [← hq_]; exact (zR HO_6.out)⟩; have n2_ : Aside0 (wc.heap[gb139]? = some (.cells #[.int .i64 x140000_23, .int .i64 x140001_23, .int .i64 x140002_23, .slice none 0 0] 32 (0, 0))) := ⟨by rw [← hq_]; exact (zK BK139.out)⟩; have n3_ : Aside0 (wc.heap[gb140]? = some (.cells #[.int .i64 0, .int .i64 0, .int .i64 0, u141003] 32 (0, 0))) := ⟨by rw [← hq_]; exact (zK BK140.out)⟩; have n4_ : Aside0 (Below w.heap.size w wc) := ⟨by rw [← hq_]; exact (zW HB.out)⟩; clear HO_141003 HO_6 BK139 BK140 HB hq_; have HO_141003 := n0_; have HO_6 := n1_; have BK139 := n2_; have BK140 := n3_; have HB := n4_; clear n0_ n1_ n2_ n3_ n4_)); have p153 : 0 ≤ (2 : Int) := (by omega); have q153 : 2 < (t144.length : Int) := zD; obtain ⟨ad153, e153, hx153_0⟩ := Kd.at_string (Kd.R_reads' HO_6.out).2.2 2 p153 q153; obtain rfl : ad147 = ad153 := (by injection e153); (try simp only [show (2 : Int).toNat = 2 from rfl, Nat.reduceMul, Nat.reduceEqDiff, Go.Addr.add, ↓reduceIte] at hx153_0); have qi153 : (2 < t144.length) = True := eq_true (by omega); (try rw [show ((2 : Int)).toNat = 2 from rfl] at hx153_0); replace p153 := eq_true p153; replace q153 := eq_true q153) | ((with_reducible refine zq 152 ?_); refine zg (some 62) Tryz.func152 #[.string (rdOf ByteArray.empty t144 2), .int .i64 9999] ?_; (with_reducible refine (spec_ParseNum.calls kj23 (rdOf ByteArray.empty t144 2) 9999 t154 true _ A35.out).mono ?_); rintro e w' ⟨rfl, ⟨nd, rfl⟩⟩; refine ⟨_, rfl, ?_⟩; (try (rw [drewN_self wc]; generalize hq_ : World.drewN wc _ = wc; have n0_ : Aside0 (Kd.R Kd.string 9 wc w.heap.size (fun k_ => some k_ ≠ (.slice (some ad147) t144.length co26 : Value).ownBlock) u141003 x141003_10) := ⟨by rw [← hq_]; exact (zR HO_141003.out)⟩; have n1_ : Aside0 (Kd.R Kd.string 9 wc w.heap.size (fun k_ => some k_ ≠ (u141003 : Value).ownBlock) (.slice (some ad147) t144.length co26) t144) := ⟨by rw [← hq_]; exact (zR HO_6.out)⟩; have n2_ : Aside0 (wc.heap[gb139]? = some (.cells #[.int .i64 x140000_23, .int .i64 x140001_23, .int .i64 x140002_23, .slice none 0 0] 32 (0, 0))) := ⟨by rw [← hq_]; exact (zK BK139.out)⟩; have n3_ : Aside0 (wc.heap[gb140]? = some (.cells #[.int .i64 0, .int .i64 0, .int .i64 0, u141003] 32 (0, 0))) := ⟨by rw [← hq_]; exact (zK BK140.out)⟩; have n4_ : Aside0 (Below w.heap.size w wc) := ⟨by rw [← hq_]; exact (zW HB.out)⟩; clear HO_141003 HO_6 BK139 BK140 HB hq_; have HO_141003 := n0_; have HO_6 := n1_; have BK139 := n2_; have BK140 := n3_; have HB := n4_; clear n0_ n1_ n2_ n3_ n4_)); have hnb41 := NB140_139.out; have hnc41 := NB139_140.out; obtain ⟨hcz42_0, hcz42_1, hcz42_2, hcz42_3, hfz42_0, hfz42_1, hfz42_2, hfz42_3⟩ := ze4 BK140.out; obtain ⟨Ao43, co43, eo43⟩ := Kd.R_slice HO_141003.out; subst eo43) | (go_at_call 68; (with_reducible refine (spec_VerOk.calls kj23 t148 t151 t154 _ _ x141003_10 true _ ?side1 ?side2 A39.out).mono ?_); (case side1 => refine (Kd.R_reads' (e := 9) (base := w.heap.size) (ok := fun k_ => some k_ ≠ (.slice (some ad147) t144.length co26 : Value).ownBlock) (n := x141003_10.length) (c := co43) ?_).2.2; exact (zR (Kd.R_mono (Kd.R_far (p := ⟨gb140, 2, none⟩) (Kd.R_far (p := ⟨gb140, 1, none⟩) (Kd.R_far (p := ⟨gb140, 0, none⟩) (Kd.R_types HO_141003.out BK140.out (by decide)) (fun _ hk => hk.2) (.int .i64 t148)) (fun _ hk => hk.2) (.int .i64 t151)) (fun _ hk => hk.2) (.int .i64 t154)) (fun _ h_ => h_.1)))); (case side2 => exact (Kd.R_reads' HO_141003.out).2.1); rintro e w44 ⟨rfl, hb⟩; replace HO_6 := zA (Kd.R_below (zR (Kd.R_mono (Kd.R_far (p := ⟨gb140, 2, none⟩) (Kd.R_far (p := ⟨gb140, 1, none⟩) (Kd.R_far (p := ⟨gb140, 0, none⟩) (Kd.R_types HO_6.out BK140.out (by decide)) (fun _ hk => hk.2) (.int .i64 t148)) (fun _ hk => hk.2) (.int .i64 t151)) (fun _ hk => hk.2) (.int .i64 t154)) (fun _ h_ => h_.1))) hb); replace HO_141003 := zA (Kd.R_below (zR (Kd.R_mono (Kd.R_far (p := ⟨gb140, 2, none⟩) (Kd.R_far (p := ⟨gb140, 1, none⟩) (Kd.R_far (p := ⟨gb140, 0, none⟩) (Kd.R_types HO_141003.out BK140.out (by decide)) (fun _ hk => hk.2) (.int .i64 t148)) (fun _ hk => hk.2) (.int .i64 t151)) (fun _ hk => hk.2) (.int .i64 t154)) (fun _ h_ => h_.1))) hb); replace BK139 := zb BK139 hb; replace BK140 := zA (blk_below (g := gb140) (o := .cells #[.int .i64 t148, .int .i64 t151, .int .i64 t154, .slice Ao43 x141003_10.length co43] 32 (0, 0)) (by (with_reducible repeat (first | refine blk_drewN ?_ _ | refine blk_drew ?_ | refine blk_alloc ?_ _)); refine blk_put (cs := #[.int .i64 t148, .int .i64 t151, .int .i64 0, .slice Ao43 x141003_10.length co43]) ?_ 2 _ rfl; (with_reducible repeat (first | refine blk_drewN ?_ _ | refine blk_drew ?_ | refine blk_alloc ?_ _)); refine blk_put (cs := #[.int .i64 t148, .int .i64 0, .int .i64 0, .slice Ao43 x141003_10.length co43]) ?_ 1 _ rfl; (with_reducible repeat (first | refine blk_drewN ?_ _ | refine blk_drew ?_ | refine blk_alloc ?_ _)); refine blk_put (cs := #[.int .i64 0, .int .i64 0, .int .i64 0, .slice Ao43 x141003_10.length co43]) ?_ 0 _ rfl; (with_reducible repeat (first | refine blk_drewN ?_ _ | refine blk_drew ?_ | refine blk_alloc ?_ _)); exact BK140.out) hb); replace HB := zh HB hb; (try clear hb); obtain ⟨hcz45_0, hcz45_1, hcz45_2, hcz45_3, hfz45_0, hfz45_1, hfz45_2, hfz45_3⟩ := ze4 BK140.out; obtain ⟨hcz46_0, hcz46_1, hcz46_2, hcz46_3, hfz46_0, hfz46_1, hfz46_2, hfz46_3⟩ := ze4 BK139.out))
           refine bodyPost_ret (results_ct rfl _ _ gb139 32 #[.int .i64 t148, .int .i64 t151, .int .i64 t154, .slice Ao43 x141003_10.length co43] (0, 0) _ rfl (zk4 BK139.out) Tryz.underlying32 rfl (by kernel_rfl)) rfl ?_
           exact ⟨_, zE, zR (Kd.R_mono (zr4 HO_141003.out BK139.out) (fun _ hk => trivial)), zW HB.out⟩
          ·simp only [Option.some.injEq, Prod.mk.injEq] at H
           obtain ⟨rfl, rfl, rfl, rfl, rfl⟩ := H
           have p147 : 0 ≤ (0 : Int) := (by omega)
           have q147 : 0 < (t144.length : Int) := zD
           obtain ⟨ad147, e147, hx147_0⟩ := Kd.at_string (Kd.R_reads' HO_6.out).2.2 0 p147 q147
           cases e147
           have qi147 : (0 < t144.length) = True := eq_true (by omega)
           (try rw [show ((0 : Int)).toNat = 0 from rfl] at hx147_0)
           (try rw [Addr.add_zero'] at hx147_0)
           replace p147 := eq_true p147
           replace q147 := eq_true q147
           go_wp2_with (first | ((with_reducible refine zq 152 ?_); refine zg (some 48) Tryz.func152 #[.string (rdOf ByteArray.empty t144 0), .int .i64 9999] ?_; (with_reducible refine (spec_ParseNum.calls kj23 (rdOf ByteArray.empty t144 0) 9999 t148 true _ A31.out).mono ?_); rintro e w' ⟨rfl, ⟨nd, rfl⟩⟩; refine ⟨_, rfl, ?_⟩; (try (rw [drewN_self wc]; generalize hq_ : World.drewN wc _ = wc; have n0_ : Aside0 (Kd.R Kd.string 9 wc w.heap.size (fun k_ => some k_ ≠ (.slice (some ad147) t144.length co26 : Value).ownBlock) u141003 x141003_10) := ⟨by rw [← hq_]; exact (zR HO_141003.out)⟩; have n1_ : Aside0 (Kd.R Kd.string 9 wc w.heap.size (fun k_ => some k_ ≠ (u141003 : Value).ownBlock) (.slice (some ad147) t144.length co26) t144) := ⟨by rw [← hq_]; exact (zR HO_6.out)⟩; have n2_ : Aside0 (wc.heap[gb139]? = some (.cells #[.int .i64 x140000_23, .int .i64 x140001_23, .int .i64 x140002_23, .slice none 0 0] 32 (0, 0))) := ⟨by rw [← hq_]; exact (zK BK139.out)⟩; have n3_ : Aside0 (wc.heap[gb140]? = some (.cells #[.int .i64 0, .int .i64 0, .int .i64 0, u141003] 32 (0, 0))) := ⟨by rw [← hq_]; exact (zK BK140.out)⟩; have n4_ : Aside0 (Below w.heap.size w wc) := ⟨by rw [← hq_]; exact (zW HB.out)⟩; clear HO_141003 HO_6 BK139 BK140 HB hq_; have HO_141003 := n0_; have HO_6 := n1_; have BK139 := n2_; have BK140 := n3_; have HB := n4_; clear n0_ n1_ n2_ n3_ n4_)); have p150 : 0 ≤ (1 : Int) := (by omega); have q150 : 1 < (t144.length : Int) := zD; obtain ⟨ad150, e150, hx150_0⟩ := Kd.at_string (Kd.R_reads' HO_6.out).2.2 1 p150 q150; obtain rfl : ad147 = ad150 := (by injection e150); (try simp only [show (1 : Int).toNat = 1 from rfl, Nat.reduceMul, Nat.reduceEqDiff, Go.Addr.add, ↓reduceIte] at hx150_0); have qi150 : (1 < t144.length) = True := eq_true (by omega); (try rw [show ((1 : Int)).toNat = 1 from rfl] at hx150_0); replace p150 := eq_true p150; replace q150 := eq_true q150) | ((with_reducible refine zq 152 ?_); refine zg (some 55) Tryz.func152 #[.string (rdOf ByteArray.empty t144 1), .int .i64 9999] ?_; (with_reducible refine (spec_ParseNum.calls kj23 (rdOf ByteArray.empty t144 1) 9999 t151 true _ A33.out).mono ?_); rintro e w' ⟨rfl, ⟨nd, rfl⟩⟩; refine ⟨_, rfl, ?_⟩; (try (rw [drewN_self wc]; generalize hq_ : World.drewN wc _ = wc; have n0_ : Aside0 (Kd.R Kd.string 9 wc w.heap.size (fun k_ => some k_ ≠ (.slice (some ad147) t144.length co26 : Value).ownBlock) u141003 x141003_10) := ⟨by rw [← hq_]; exact (zR HO_141003.out)⟩; have n1_ : Aside0 (Kd.R Kd.string 9 wc w.heap.size (fun k_ => some k_ ≠ (u141003 : Value).ownBlock) (.slice (some ad147) t144.length co26) t144) := ⟨by rw [← hq_]; exact (zR HO_6.out)⟩; have n2_ : Aside0 (wc.heap[gb139]? = some (.cells #[.int .i64 x140000_23, .int .i64 x140001_23, .int .i64 x140002_23, .slice none 0 0] 32 (0, 0))) := ⟨by rw [← hq_]; exact (zK BK139.out)⟩; have n3_ : Aside0 (wc.heap[gb140]? = some (.cells #[.int .i64 0, .int .i64 0, .int .i64 0, u141003] 32 (0, 0))) := ⟨by rw [← hq_]; exact (zK BK140.out)⟩; have n4_ : Aside0 (Below w.heap.size w wc) := ⟨by rw [← hq_]; exact (zW HB.out)⟩; clear HO_141003 HO_6 BK139 BK140 HB hq_; have HO_141003 := n0_; have HO_6 := n1_; have BK139 := n2_; have BK140 := n3_; have HB := n4_; clear n0_ n1_ n2_ n3_ n4_)); have p153 : 0 ≤ (2 : Int) := (by omega); have q153 : 2 < (t144.length : Int) := zD; obtain ⟨ad153, e153, hx153_0⟩ := Kd.at_string (Kd.R_reads' HO_6.out).2.2 2 p153 q153; obtain rfl : ad147 = ad153 := (by injection e153); (try simp only [show (2 : Int).toNat = 2 from rfl, Nat.reduceMul, Nat.reduceEqDiff, Go.Addr.add, ↓reduceIte] at hx153_0); have qi153 : (2 < t144.length) = True := eq_true (by omega); (try rw [show ((2 : Int)).toNat = 2 from rfl] at hx153_0); replace p153 := eq_true p153; replace q153 := eq_true q153) | ((with_reducible refine zq 152 ?_); refine zg (some 62) Tryz.func152 #[.string (rdOf ByteArray.empty t144 2), .int .i64 9999] ?_; (with_reducible refine (spec_ParseNum.calls kj23 (rdOf ByteArray.empty t144 2) 9999 t154 true _ A35.out).mono ?_); rintro e w' ⟨rfl, ⟨nd, rfl⟩⟩; refine ⟨_, rfl, ?_⟩; (try (rw [drewN_self wc]; generalize hq_ : World.drewN wc _ = wc; have n0_ : Aside0 (Kd.R Kd.string 9 wc w.heap.size (fun k_ => some k_ ≠ (.slice (some ad147) t144.length co26 : Value).ownBlock) u141003 x141003_10) := ⟨by rw [← hq_]; exact (zR HO_141003.out)⟩; have n1_ : Aside0 (Kd.R Kd.string 9 wc w.heap.size (fun k_ => some k_ ≠ (u141003 : Value).ownBlock) (.slice (some ad147) t144.length co26) t144) := ⟨by rw [← hq_]; exact (zR HO_6.out)⟩; have n2_ : Aside0 (wc.heap[gb139]? = some (.cells #[.int .i64 x140000_23, .int .i64 x140001_23, .int .i64 x140002_23, .slice none 0 0] 32 (0, 0))) := ⟨by rw [← hq_]; exact (zK BK139.out)⟩; have n3_ : Aside0 (wc.heap[gb140]? = some (.cells #[.int .i64 0, .int .i64 0, .int .i64 0, u141003] 32 (0, 0))) := ⟨by rw [← hq_]; exact (zK BK140.out)⟩; have n4_ : Aside0 (Below w.heap.size w wc) := ⟨by rw [← hq_]; exact (zW HB.out)⟩; clear HO_141003 HO_6 BK139 BK140 HB hq_; have HO_141003 := n0_; have HO_6 := n1_; have BK139 := n2_; have BK140 := n3_; have HB := n4_; clear n0_ n1_ n2_ n3_ n4_)); have hnb47 := NB140_139.out; have hnc47 := NB139_140.out; obtain ⟨hcz48_0, hcz48_1, hcz48_2, hcz48_3, hfz48_0, hfz48_1, hfz48_2, hfz48_3⟩ := ze4 BK140.out; obtain ⟨Ao49, co49, eo49⟩ := Kd.R_slice HO_141003.out; subst eo49) | (go_at_call 68; (with_reducible refine (spec_VerOk.calls kj23 t148 t151 t154 _ _ x141003_10 false _ ?side1 ?side2 A39.out).mono ?_); (case side1 => refine (Kd.R_reads' (e := 9) (base := w.heap.size) (ok := fun k_ => some k_ ≠ (.slice (some ad147) t144.length co26 : Value).ownBlock) (n := x141003_10.length) (c := co49) ?_).2.2; exact (zR (Kd.R_mono (Kd.R_far (p := ⟨gb140, 2, none⟩) (Kd.R_far (p := ⟨gb140, 1, none⟩) (Kd.R_far (p := ⟨gb140, 0, none⟩) (Kd.R_types HO_141003.out BK140.out (by decide)) (fun _ hk => hk.2) (.int .i64 t148)) (fun _ hk => hk.2) (.int .i64 t151)) (fun _ hk => hk.2) (.int .i64 t154)) (fun _ h_ => h_.1)))); (case side2 => exact (Kd.R_reads' HO_141003.out).2.1); rintro e w50 ⟨rfl, hb⟩; replace HO_6 := zA (Kd.R_below (zR (Kd.R_mono (Kd.R_far (p := ⟨gb140, 2, none⟩) (Kd.R_far (p := ⟨gb140, 1, none⟩) (Kd.R_far (p := ⟨gb140, 0, none⟩) (Kd.R_types HO_6.out BK140.out (by decide)) (fun _ hk => hk.2) (.int .i64 t148)) (fun _ hk => hk.2) (.int .i64 t151)) (fun _ hk => hk.2) (.int .i64 t154)) (fun _ h_ => h_.1))) hb); replace HO_141003 := zA (Kd.R_below (zR (Kd.R_mono (Kd.R_far (p := ⟨gb140, 2, none⟩) (Kd.R_far (p := ⟨gb140, 1, none⟩) (Kd.R_far (p := ⟨gb140, 0, none⟩) (Kd.R_types HO_141003.out BK140.out (by decide)) (fun _ hk => hk.2) (.int .i64 t148)) (fun _ hk => hk.2) (.int .i64 t151)) (fun _ hk => hk.2) (.int .i64 t154)) (fun _ h_ => h_.1))) hb); replace BK139 := zb BK139 hb; replace BK140 := zA (blk_below (g := gb140) (o := .cells #[.int .i64 t148, .int .i64 t151, .int .i64 t154, .slice Ao49 x141003_10.length co49] 32 (0, 0)) (by (with_reducible repeat (first | refine blk_drewN ?_ _ | refine blk_drew ?_ | refine blk_alloc ?_ _)); refine blk_put (cs := #[.int .i64 t148, .int .i64 t151, .int .i64 0, .slice Ao49 x141003_10.length co49]) ?_ 2 _ rfl; (with_reducible repeat (first | refine blk_drewN ?_ _ | refine blk_drew ?_ | refine blk_alloc ?_ _)); refine blk_put (cs := #[.int .i64 t148, .int .i64 0, .int .i64 0, .slice Ao49 x141003_10.length co49]) ?_ 1 _ rfl; (with_reducible repeat (first | refine blk_drewN ?_ _ | refine blk_drew ?_ | refine blk_alloc ?_ _)); refine blk_put (cs := #[.int .i64 0, .int .i64 0, .int .i64 0, .slice Ao49 x141003_10.length co49]) ?_ 0 _ rfl; (with_reducible repeat (first | refine blk_drewN ?_ _ | refine blk_drew ?_ | refine blk_alloc ?_ _)); exact BK140.out) hb); replace HB := zh HB hb; (try clear hb); obtain ⟨hcz51_0, hcz51_1, hcz51_2, hcz51_3, hfz51_0, hfz51_1, hfz51_2, hfz51_3⟩ := ze4 BK139.out))
           refine bodyPost_ret (results_ct rfl _ _ gb139 32 #[.int .i64 0, .int .i64 0, .int .i64 0, .slice none 0 0] (0, 0) _ rfl (zk4 BK139.out) Tryz.underlying32 rfl (by kernel_rfl)) rfl ?_
           exact ⟨_, zE, by first | exact Kd.R_nil _ _ _ _ _ | exact Kd.N_nil _ _ _ _ _ | exact Kd.V_nil _ _ _ _ _ | exact Kd.Q_nil _ _ _ _ _ | exact Kd.S_nil _ _ _ _ _, zW HB.out⟩
         ·simp only [Option.some.injEq, Prod.mk.injEq] at H
          obtain ⟨rfl, rfl, rfl, rfl, rfl⟩ := H
          have p147 : 0 ≤ (0 : Int) := (by omega)
          have q147 : 0 < (t144.length : Int) := zD
          obtain ⟨ad147, e147, hx147_0⟩ := Kd.at_string (Kd.R_reads' HO_6.out).2.2 0 p147 q147
          cases e147
          have qi147 : (0 < t144.length) = True := eq_true (by omega)
          (try rw [show ((0 : Int)).toNat = 0 from rfl] at hx147_0)
          (try rw [Addr.add_zero'] at hx147_0)
          replace p147 := eq_true p147
          replace q147 := eq_true q147
          go_wp2_with (first | ((with_reducible refine zq 152 ?_); refine zg (some 48) Tryz.func152 #[.string (rdOf ByteArray.empty t144 0), .int .i64 9999] ?_; (with_reducible refine (spec_ParseNum.calls kj23 (rdOf ByteArray.empty t144 0) 9999 t148 true _ A31.out).mono ?_); rintro e w' ⟨rfl, ⟨nd, rfl⟩⟩; refine ⟨_, rfl, ?_⟩; (try (rw [drewN_self wc]; generalize hq_ : World.drewN wc _ = wc; have n0_ : Aside0 (Kd.R Kd.string 9 wc w.heap.size (fun k_ => some k_ ≠ (.slice (some ad147) t144.length co26 : Value).ownBlock) u141003 x141003_10) := ⟨by rw [← hq_]; exact (zR HO_141003.out)⟩; have n1_ : Aside0 (Kd.R Kd.string 9 wc w.heap.size (fun k_ => some k_ ≠ (u141003 : Value).ownBlock) (.slice (some ad147) t144.length co26) t144) := ⟨by rw [← hq_]; exact (zR HO_6.out)⟩; have n2_ : Aside0 (wc.heap[gb139]? = some (.cells #[.int .i64 x140000_23, .int .i64 x140001_23, .int .i64 x140002_23, .slice none 0 0] 32 (0, 0))) := ⟨by rw [← hq_]; exact (zK BK139.out)⟩; have n3_ : Aside0 (wc.heap[gb140]? = some (.cells #[.int .i64 0, .int .i64 0, .int .i64 0, u141003] 32 (0, 0))) := ⟨by rw [← hq_]; exact (zK BK140.out)⟩; have n4_ : Aside0 (Below w.heap.size w wc) := ⟨by rw [← hq_]; exact (zW HB.out)⟩; clear HO_141003 HO_6 BK139 BK140 HB hq_; have HO_141003 := n0_; have HO_6 := n1_; have BK139 := n2_; have BK140 := n3_; have HB := n4_; clear n0_ n1_ n2_ n3_ n4_)); have p150 : 0 ≤ (1 : Int) := (by omega); have q150 : 1 < (t144.length : Int) := zD; obtain ⟨ad150, e150, hx150_0⟩ := Kd.at_string (Kd.R_reads' HO_6.out).2.2 1 p150 q150; obtain rfl : ad147 = ad150 := (by injection e150); (try simp only [show (1 : Int).toNat = 1 from rfl, Nat.reduceMul, Nat.reduceEqDiff, Go.Addr.add, ↓reduceIte] at hx150_0); have qi150 : (1 < t144.length) = True := eq_true (by omega); (try rw [show ((1 : Int)).toNat = 1 from rfl] at hx150_0); replace p150 := eq_true p150; replace q150 := eq_true q150) | ((with_reducible refine zq 152 ?_); refine zg (some 55) Tryz.func152 #[.string (rdOf ByteArray.empty t144 1), .int .i64 9999] ?_; (with_reducible refine (spec_ParseNum.calls kj23 (rdOf ByteArray.empty t144 1) 9999 t151 true _ A33.out).mono ?_); rintro e w' ⟨rfl, ⟨nd, rfl⟩⟩; refine ⟨_, rfl, ?_⟩; (try (rw [drewN_self wc]; generalize hq_ : World.drewN wc _ = wc; have n0_ : Aside0 (Kd.R Kd.string 9 wc w.heap.size (fun k_ => some k_ ≠ (.slice (some ad147) t144.length co26 : Value).ownBlock) u141003 x141003_10) := ⟨by rw [← hq_]; exact (zR HO_141003.out)⟩; have n1_ : Aside0 (Kd.R Kd.string 9 wc w.heap.size (fun k_ => some k_ ≠ (u141003 : Value).ownBlock) (.slice (some ad147) t144.length co26) t144) := ⟨by rw [← hq_]; exact (zR HO_6.out)⟩; have n2_ : Aside0 (wc.heap[gb139]? = some (.cells #[.int .i64 x140000_23, .int .i64 x140001_23, .int .i64 x140002_23, .slice none 0 0] 32 (0, 0))) := ⟨by rw [← hq_]; exact (zK BK139.out)⟩; have n3_ : Aside0 (wc.heap[gb140]? = some (.cells #[.int .i64 0, .int .i64 0, .int .i64 0, u141003] 32 (0, 0))) := ⟨by rw [← hq_]; exact (zK BK140.out)⟩; have n4_ : Aside0 (Below w.heap.size w wc) := ⟨by rw [← hq_]; exact (zW HB.out)⟩; clear HO_141003 HO_6 BK139 BK140 HB hq_; have HO_141003 := n0_; have HO_6 := n1_; have BK139 := n2_; have BK140 := n3_; have HB := n4_; clear n0_ n1_ n2_ n3_ n4_)); have p153 : 0 ≤ (2 : Int) := (by omega); have q153 : 2 < (t144.length : Int) := zD; obtain ⟨ad153, e153, hx153_0⟩ := Kd.at_string (Kd.R_reads' HO_6.out).2.2 2 p153 q153; obtain rfl : ad147 = ad153 := (by injection e153); (try simp only [show (2 : Int).toNat = 2 from rfl, Nat.reduceMul, Nat.reduceEqDiff, Go.Addr.add, ↓reduceIte] at hx153_0); have qi153 : (2 < t144.length) = True := eq_true (by omega); (try rw [show ((2 : Int)).toNat = 2 from rfl] at hx153_0); replace p153 := eq_true p153; replace q153 := eq_true q153) | ((with_reducible refine zq 152 ?_); refine zg (some 62) Tryz.func152 #[.string (rdOf ByteArray.empty t144 2), .int .i64 9999] ?_; (with_reducible refine (spec_ParseNum.calls kj23 (rdOf ByteArray.empty t144 2) 9999 t154 false _ A35.out).mono ?_); rintro e w' ⟨rfl, ⟨nd, rfl⟩⟩; refine ⟨_, rfl, ?_⟩; (try (rw [drewN_self wc]; generalize hq_ : World.drewN wc _ = wc; have n0_ : Aside0 (Kd.R Kd.string 9 wc w.heap.size (fun k_ => some k_ ≠ (.slice (some ad147) t144.length co26 : Value).ownBlock) u141003 x141003_10) := ⟨by rw [← hq_]; exact (zR HO_141003.out)⟩; have n1_ : Aside0 (Kd.R Kd.string 9 wc w.heap.size (fun k_ => some k_ ≠ (u141003 : Value).ownBlock) (.slice (some ad147) t144.length co26) t144) := ⟨by rw [← hq_]; exact (zR HO_6.out)⟩; have n2_ : Aside0 (wc.heap[gb139]? = some (.cells #[.int .i64 x140000_23, .int .i64 x140001_23, .int .i64 x140002_23, .slice none 0 0] 32 (0, 0))) := ⟨by rw [← hq_]; exact (zK BK139.out)⟩; have n3_ : Aside0 (wc.heap[gb140]? = some (.cells #[.int .i64 0, .int .i64 0, .int .i64 0, u141003] 32 (0, 0))) := ⟨by rw [← hq_]; exact (zK BK140.out)⟩; have n4_ : Aside0 (Below w.heap.size w wc) := ⟨by rw [← hq_]; exact (zW HB.out)⟩; clear HO_141003 HO_6 BK139 BK140 HB hq_; have HO_141003 := n0_; have HO_6 := n1_; have BK139 := n2_; have BK140 := n3_; have HB := n4_; clear n0_ n1_ n2_ n3_ n4_)); have hnb52 := NB140_139.out; have hnc52 := NB139_140.out; obtain ⟨hcz53_0, hcz53_1, hcz53_2, hcz53_3, hfz53_0, hfz53_1, hfz53_2, hfz53_3⟩ := ze4 BK140.out; obtain ⟨hcz54_0, hcz54_1, hcz54_2, hcz54_3, hfz54_0, hfz54_1, hfz54_2, hfz54_3⟩ := ze4 BK139.out))
          refine bodyPost_ret (results_ct rfl _ _ gb139 32 #[.int .i64 0, .int .i64 0, .int .i64 0, .slice none 0 0] (0, 0) _ rfl (zk4 BK139.out) Tryz.underlying32 rfl (by kernel_rfl)) rfl ?_
          exact ⟨_, zE, by first | exact Kd.R_nil _ _ _ _ _ | exact Kd.N_nil _ _ _ _ _ | exact Kd.V_nil _ _ _ _ _ | exact Kd.Q_nil _ _ _ _ _ | exact Kd.S_nil _ _ _ _ _, zW HB.out⟩
        ·simp only [Option.some.injEq, Prod.mk.injEq] at H
         obtain ⟨rfl, rfl, rfl, rfl, rfl⟩ := H
         have p147 : 0 ≤ (0 : Int) := (by omega)
         have q147 : 0 < (t144.length : Int) := zD
         obtain ⟨ad147, e147, hx147_0⟩ := Kd.at_string (Kd.R_reads' HO_6.out).2.2 0 p147 q147
         cases e147
         have qi147 : (0 < t144.length) = True := eq_true (by omega)
         (try rw [show ((0 : Int)).toNat = 0 from rfl] at hx147_0)
         (try rw [Addr.add_zero'] at hx147_0)
         replace p147 := eq_true p147
         replace q147 := eq_true q147
         go_wp2_with (first | ((with_reducible refine zq 152 ?_); refine zg (some 48) Tryz.func152 #[.string (rdOf ByteArray.empty t144 0), .int .i64 9999] ?_; (with_reducible refine (spec_ParseNum.calls kj23 (rdOf ByteArray.empty t144 0) 9999 t148 true _ A31.out).mono ?_); rintro e w' ⟨rfl, ⟨nd, rfl⟩⟩; refine ⟨_, rfl, ?_⟩; (try (rw [drewN_self wc]; generalize hq_ : World.drewN wc _ = wc; have n0_ : Aside0 (Kd.R Kd.string 9 wc w.heap.size (fun k_ => some k_ ≠ (.slice (some ad147) t144.length co26 : Value).ownBlock) u141003 x141003_10) := ⟨by rw [← hq_]; exact (zR HO_141003.out)⟩; have n1_ : Aside0 (Kd.R Kd.string 9 wc w.heap.size (fun k_ => some k_ ≠ (u141003 : Value).ownBlock) (.slice (some ad147) t144.length co26) t144) := ⟨by rw [← hq_]; exact (zR HO_6.out)⟩; have n2_ : Aside0 (wc.heap[gb139]? = some (.cells #[.int .i64 x140000_23, .int .i64 x140001_23, .int .i64 x140002_23, .slice none 0 0] 32 (0, 0))) := ⟨by rw [← hq_]; exact (zK BK139.out)⟩; have n3_ : Aside0 (wc.heap[gb140]? = some (.cells #[.int .i64 0, .int .i64 0, .int .i64 0, u141003] 32 (0, 0))) := ⟨by rw [← hq_]; exact (zK BK140.out)⟩; have n4_ : Aside0 (Below w.heap.size w wc) := ⟨by rw [← hq_]; exact (zW HB.out)⟩; clear HO_141003 HO_6 BK139 BK140 HB hq_; have HO_141003 := n0_; have HO_6 := n1_; have BK139 := n2_; have BK140 := n3_; have HB := n4_; clear n0_ n1_ n2_ n3_ n4_)); have p150 : 0 ≤ (1 : Int) := (by omega); have q150 : 1 < (t144.length : Int) := zD; obtain ⟨ad150, e150, hx150_0⟩ := Kd.at_string (Kd.R_reads' HO_6.out).2.2 1 p150 q150; obtain rfl : ad147 = ad150 := (by injection e150); (try simp only [show (1 : Int).toNat = 1 from rfl, Nat.reduceMul, Nat.reduceEqDiff, Go.Addr.add, ↓reduceIte] at hx150_0); have qi150 : (1 < t144.length) = True := eq_true (by omega); (try rw [show ((1 : Int)).toNat = 1 from rfl] at hx150_0); replace p150 := eq_true p150; replace q150 := eq_true q150) | ((with_reducible refine zq 152 ?_); refine zg (some 55) Tryz.func152 #[.string (rdOf ByteArray.empty t144 1), .int .i64 9999] ?_; (with_reducible refine (spec_ParseNum.calls kj23 (rdOf ByteArray.empty t144 1) 9999 t151 false _ A33.out).mono ?_); rintro e w' ⟨rfl, ⟨nd, rfl⟩⟩; refine ⟨_, rfl, ?_⟩; (try (rw [drewN_self wc]; generalize hq_ : World.drewN wc _ = wc; have n0_ : Aside0 (Kd.R Kd.string 9 wc w.heap.size (fun k_ => some k_ ≠ (.slice (some ad147) t144.length co26 : Value).ownBlock) u141003 x141003_10) := ⟨by rw [← hq_]; exact (zR HO_141003.out)⟩; have n1_ : Aside0 (Kd.R Kd.string 9 wc w.heap.size (fun k_ => some k_ ≠ (u141003 : Value).ownBlock) (.slice (some ad147) t144.length co26) t144) := ⟨by rw [← hq_]; exact (zR HO_6.out)⟩; have n2_ : Aside0 (wc.heap[gb139]? = some (.cells #[.int .i64 x140000_23, .int .i64 x140001_23, .int .i64 x140002_23, .slice none 0 0] 32 (0, 0))) := ⟨by rw [← hq_]; exact (zK BK139.out)⟩; have n3_ : Aside0 (wc.heap[gb140]? = some (.cells #[.int .i64 0, .int .i64 0, .int .i64 0, u141003] 32 (0, 0))) := ⟨by rw [← hq_]; exact (zK BK140.out)⟩; have n4_ : Aside0 (Below w.heap.size w wc) := ⟨by rw [← hq_]; exact (zW HB.out)⟩; clear HO_141003 HO_6 BK139 BK140 HB hq_; have HO_141003 := n0_; have HO_6 := n1_; have BK139 := n2_; have BK140 := n3_; have HB := n4_; clear n0_ n1_ n2_ n3_ n4_)); have p153 : 0 ≤ (2 : Int) := (by omega); have q153 : 2 < (t144.length : Int) := zD; obtain ⟨ad153, e153, hx153_0⟩ := Kd.at_string (Kd.R_reads' HO_6.out).2.2 2 p153 q153; obtain rfl : ad147 = ad153 := (by injection e153); (try simp only [show (2 : Int).toNat = 2 from rfl, Nat.reduceMul, Nat.reduceEqDiff, Go.Addr.add, ↓reduceIte] at hx153_0); have qi153 : (2 < t144.length) = True := eq_true (by omega); (try rw [show ((2 : Int)).toNat = 2 from rfl] at hx153_0); replace p153 := eq_true p153; replace q153 := eq_true q153) | ((with_reducible refine zq 152 ?_); refine zg (some 62) Tryz.func152 #[.string (rdOf ByteArray.empty t144 2), .int .i64 9999] ?_; (with_reducible refine (spec_ParseNum.calls kj23 (rdOf ByteArray.empty t144 2) 9999 t154 t155 _ A35.out).mono ?_); rintro e w' ⟨rfl, ⟨nd, rfl⟩⟩; refine ⟨_, rfl, ?_⟩; (try (rw [drewN_self wc]; generalize hq_ : World.drewN wc _ = wc; have n0_ : Aside0 (Kd.R Kd.string 9 wc w.heap.size (fun k_ => some k_ ≠ (.slice (some ad147) t144.length co26 : Value).ownBlock) u141003 x141003_10) := ⟨by rw [← hq_]; exact (zR HO_141003.out)⟩; have n1_ : Aside0 (Kd.R Kd.string 9 wc w.heap.size (fun k_ => some k_ ≠ (u141003 : Value).ownBlock) (.slice (some ad147) t144.length co26) t144) := ⟨by rw [← hq_]; exact (zR HO_6.out)⟩; have n2_ : Aside0 (wc.heap[gb139]? = some (.cells #[.int .i64 x140000_23, .int .i64 x140001_23, .int .i64 x140002_23, .slice none 0 0] 32 (0, 0))) := ⟨by rw [← hq_]; exact (zK BK139.out)⟩; have n3_ : Aside0 (wc.heap[gb140]? = some (.cells #[.int .i64 0, .int .i64 0, .int .i64 0, u141003] 32 (0, 0))) := ⟨by rw [← hq_]; exact (zK BK140.out)⟩; have n4_ : Aside0 (Below w.heap.size w wc) := ⟨by rw [← hq_]; exact (zW HB.out)⟩; clear HO_141003 HO_6 BK139 BK140 HB hq_; have HO_141003 := n0_; have HO_6 := n1_; have BK139 := n2_; have BK140 := n3_; have HB := n4_; clear n0_ n1_ n2_ n3_ n4_)); have hnb55 := NB140_139.out; have hnc55 := NB139_140.out; obtain ⟨hcz56_0, hcz56_1, hcz56_2, hcz56_3, hfz56_0, hfz56_1, hfz56_2, hfz56_3⟩ := ze4 BK140.out; obtain ⟨hcz57_0, hcz57_1, hcz57_2, hcz57_3, hfz57_0, hfz57_1, hfz57_2, hfz57_3⟩ := ze4 BK139.out))
         refine bodyPost_ret (results_ct rfl _ _ gb139 32 #[.int .i64 0, .int .i64 0, .int .i64 0, .slice none 0 0] (0, 0) _ rfl (zk4 BK139.out) Tryz.underlying32 rfl (by kernel_rfl)) rfl ?_
         exact ⟨_, zE, by first | exact Kd.R_nil _ _ _ _ _ | exact Kd.N_nil _ _ _ _ _ | exact Kd.V_nil _ _ _ _ _ | exact Kd.Q_nil _ _ _ _ _ | exact Kd.S_nil _ _ _ _ _, zW HB.out⟩
       ·simp only [Option.some.injEq, Prod.mk.injEq] at H
        obtain ⟨rfl, rfl, rfl, rfl, rfl⟩ := H
        have p147 : 0 ≤ (0 : Int) := (by omega)
        have q147 : 0 < (t144.length : Int) := zD
        obtain ⟨ad147, e147, hx147_0⟩ := Kd.at_string (Kd.R_reads' HO_6.out).2.2 0 p147 q147
        cases e147
        have qi147 : (0 < t144.length) = True := eq_true (by omega)
        (try rw [show ((0 : Int)).toNat = 0 from rfl] at hx147_0)
        (try rw [Addr.add_zero'] at hx147_0)
        replace p147 := eq_true p147
        replace q147 := eq_true q147
        go_wp2_with (first | ((with_reducible refine zq 152 ?_); refine zg (some 48) Tryz.func152 #[.string (rdOf ByteArray.empty t144 0), .int .i64 9999] ?_; (with_reducible refine (spec_ParseNum.calls kj23 (rdOf ByteArray.empty t144 0) 9999 t148 false _ A31.out).mono ?_); rintro e w' ⟨rfl, ⟨nd, rfl⟩⟩; refine ⟨_, rfl, ?_⟩; (try (rw [drewN_self wc]; generalize hq_ : World.drewN wc _ = wc; have n0_ : Aside0 (Kd.R Kd.string 9 wc w.heap.size (fun k_ => some k_ ≠ (.slice (some ad147) t144.length co26 : Value).ownBlock) u141003 x141003_10) := ⟨by rw [← hq_]; exact (zR HO_141003.out)⟩; have n1_ : Aside0 (Kd.R Kd.string 9 wc w.heap.size (fun k_ => some k_ ≠ (u141003 : Value).ownBlock) (.slice (some ad147) t144.length co26) t144) := ⟨by rw [← hq_]; exact (zR HO_6.out)⟩; have n2_ : Aside0 (wc.heap[gb139]? = some (.cells #[.int .i64 x140000_23, .int .i64 x140001_23, .int .i64 x140002_23, .slice none 0 0] 32 (0, 0))) := ⟨by rw [← hq_]; exact (zK BK139.out)⟩; have n3_ : Aside0 (wc.heap[gb140]? = some (.cells #[.int .i64 0, .int .i64 0, .int .i64 0, u141003] 32 (0, 0))) := ⟨by rw [← hq_]; exact (zK BK140.out)⟩; have n4_ : Aside0 (Below w.heap.size w wc) := ⟨by rw [← hq_]; exact (zW HB.out)⟩; clear HO_141003 HO_6 BK139 BK140 HB hq_; have HO_141003 := n0_; have HO_6 := n1_; have BK139 := n2_; have BK140 := n3_; have HB := n4_; clear n0_ n1_ n2_ n3_ n4_)); have p150 : 0 ≤ (1 : Int) := (by omega); have q150 : 1 < (t144.length : Int) := zD; obtain ⟨ad150, e150, hx150_0⟩ := Kd.at_string (Kd.R_reads' HO_6.out).2.2 1 p150 q150; obtain rfl : ad147 = ad150 := (by injection e150); (try simp only [show (1 : Int).toNat = 1 from rfl, Nat.reduceMul, Nat.reduceEqDiff, Go.Addr.add, ↓reduceIte] at hx150_0); have qi150 : (1 < t144.length) = True := eq_true (by omega); (try rw [show ((1 : Int)).toNat = 1 from rfl] at hx150_0); replace p150 := eq_true p150; replace q150 := eq_true q150) | ((with_reducible refine zq 152 ?_); refine zg (some 55) Tryz.func152 #[.string (rdOf ByteArray.empty t144 1), .int .i64 9999] ?_; (with_reducible refine (spec_ParseNum.calls kj23 (rdOf ByteArray.empty t144 1) 9999 t151 t152 _ A33.out).mono ?_); rintro e w' ⟨rfl, ⟨nd, rfl⟩⟩; refine ⟨_, rfl, ?_⟩; (try (rw [drewN_self wc]; generalize hq_ : World.drewN wc _ = wc; have n0_ : Aside0 (Kd.R Kd.string 9 wc w.heap.size (fun k_ => some k_ ≠ (.slice (some ad147) t144.length co26 : Value).ownBlock) u141003 x141003_10) := ⟨by rw [← hq_]; exact (zR HO_141003.out)⟩; have n1_ : Aside0 (Kd.R Kd.string 9 wc w.heap.size (fun k_ => some k_ ≠ (u141003 : Value).ownBlock) (.slice (some ad147) t144.length co26) t144) := ⟨by rw [← hq_]; exact (zR HO_6.out)⟩; have n2_ : Aside0 (wc.heap[gb139]? = some (.cells #[.int .i64 x140000_23, .int .i64 x140001_23, .int .i64 x140002_23, .slice none 0 0] 32 (0, 0))) := ⟨by rw [← hq_]; exact (zK BK139.out)⟩; have n3_ : Aside0 (wc.heap[gb140]? = some (.cells #[.int .i64 0, .int .i64 0, .int .i64 0, u141003] 32 (0, 0))) := ⟨by rw [← hq_]; exact (zK BK140.out)⟩; have n4_ : Aside0 (Below w.heap.size w wc) := ⟨by rw [← hq_]; exact (zW HB.out)⟩; clear HO_141003 HO_6 BK139 BK140 HB hq_; have HO_141003 := n0_; have HO_6 := n1_; have BK139 := n2_; have BK140 := n3_; have HB := n4_; clear n0_ n1_ n2_ n3_ n4_)); have p153 : 0 ≤ (2 : Int) := (by omega); have q153 : 2 < (t144.length : Int) := zD; obtain ⟨ad153, e153, hx153_0⟩ := Kd.at_string (Kd.R_reads' HO_6.out).2.2 2 p153 q153; obtain rfl : ad147 = ad153 := (by injection e153); (try simp only [show (2 : Int).toNat = 2 from rfl, Nat.reduceMul, Nat.reduceEqDiff, Go.Addr.add, ↓reduceIte] at hx153_0); have qi153 : (2 < t144.length) = True := eq_true (by omega); (try rw [show ((2 : Int)).toNat = 2 from rfl] at hx153_0); replace p153 := eq_true p153; replace q153 := eq_true q153) | ((with_reducible refine zq 152 ?_); refine zg (some 62) Tryz.func152 #[.string (rdOf ByteArray.empty t144 2), .int .i64 9999] ?_; (with_reducible refine (spec_ParseNum.calls kj23 (rdOf ByteArray.empty t144 2) 9999 t154 t155 _ A35.out).mono ?_); rintro e w' ⟨rfl, ⟨nd, rfl⟩⟩; refine ⟨_, rfl, ?_⟩; (try (rw [drewN_self wc]; generalize hq_ : World.drewN wc _ = wc; have n0_ : Aside0 (Kd.R Kd.string 9 wc w.heap.size (fun k_ => some k_ ≠ (.slice (some ad147) t144.length co26 : Value).ownBlock) u141003 x141003_10) := ⟨by rw [← hq_]; exact (zR HO_141003.out)⟩; have n1_ : Aside0 (Kd.R Kd.string 9 wc w.heap.size (fun k_ => some k_ ≠ (u141003 : Value).ownBlock) (.slice (some ad147) t144.length co26) t144) := ⟨by rw [← hq_]; exact (zR HO_6.out)⟩; have n2_ : Aside0 (wc.heap[gb139]? = some (.cells #[.int .i64 x140000_23, .int .i64 x140001_23, .int .i64 x140002_23, .slice none 0 0] 32 (0, 0))) := ⟨by rw [← hq_]; exact (zK BK139.out)⟩; have n3_ : Aside0 (wc.heap[gb140]? = some (.cells #[.int .i64 0, .int .i64 0, .int .i64 0, u141003] 32 (0, 0))) := ⟨by rw [← hq_]; exact (zK BK140.out)⟩; have n4_ : Aside0 (Below w.heap.size w wc) := ⟨by rw [← hq_]; exact (zW HB.out)⟩; clear HO_141003 HO_6 BK139 BK140 HB hq_; have HO_141003 := n0_; have HO_6 := n1_; have BK139 := n2_; have BK140 := n3_; have HB := n4_; clear n0_ n1_ n2_ n3_ n4_)); have hnb58 := NB140_139.out; have hnc58 := NB139_140.out; obtain ⟨hcz59_0, hcz59_1, hcz59_2, hcz59_3, hfz59_0, hfz59_1, hfz59_2, hfz59_3⟩ := ze4 BK140.out; obtain ⟨hcz60_0, hcz60_1, hcz60_2, hcz60_3, hfz60_0, hfz60_1, hfz60_2, hfz60_3⟩ := ze4 BK139.out))
        refine bodyPost_ret (results_ct rfl _ _ gb139 32 #[.int .i64 0, .int .i64 0, .int .i64 0, .slice none 0 0] (0, 0) _ rfl (zk4 BK139.out) Tryz.underlying32 rfl (by kernel_rfl)) rfl ?_
        exact ⟨_, zE, by first | exact Kd.R_nil _ _ _ _ _ | exact Kd.N_nil _ _ _ _ _ | exact Kd.V_nil _ _ _ _ _ | exact Kd.Q_nil _ _ _ _ _ | exact Kd.S_nil _ _ _ _ _, zW HB.out⟩
end Go.Proofs.YtpcdhoeoefoeoaaGreatDoor.PGA
