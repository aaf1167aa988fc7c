/- The walks of the functions that these laws reach, and what each comes to: printed by this session's program. -/
import Derived.Deep.CutBlock
import Derived.Test.YtpcdhoeoefoeoaaGreatDoorZGAPGAx0
import Derived.Test.YtpcdhoeoefoeoaaGreatDoorZGAPGAx2
import Derived.Test.YtpcdhoeoefoeoaaGreatDoorZGAPGAx3
import Derived.Test.YtpcdhoeoefoeoaaGreatDoorZGAPGAx7
import Derived.Test.YtpcdhoeoefoeoaaGreatDoorZGASays
import Derived.Test.YtpcdhoeoefoeoaaGreatDoorZGARegN
namespace Go.Proofs.YtpcdhoeoefoeoaaGreatDoor.PGA
open Go.RowKit YtpcdhoeoefoeoaaGreatDoorW.PrintWords YtpcdhoeoefoeoaaGreatDoorW.PrintLast YtpcdhoeoefoeoaaGreatDoorW.PrintMore
attribute [local go_sem high] Mine.str_gtr Mine.str_leq Mine.str_geq
attribute [local go_sem] max2_int min2_int max_two min_two max_three min_three max_four min_four   -- for this text's walks alone
set_option linter.unusedVariables false
set_option maxHeartbeats 8000000
set_option maxRecDepth 100000
set_option linter.unusedSimpArgs false
/-! ### spec_l4List: function 77 -/
mutual
def spec_l4List.j0 : Nat → List ByteArray → List (S75) → Bool → Option ((List (S75)) × Bool)
 | 0, _, _, _ => none
 | k + 1, x0, x4, x21 => if x21 = true then (if 0 < (x0.length : Int) then ((spec_ParseVer.f k (rdOf ByteArray.empty x0 0)).bind fun bt345 => (if 2 < (x0.length : Int) then ((spec_ParseVer.f k (rdOf ByteArray.empty x0 2)).bind fun bt354 => ((some (([(⟨4, (⟨bt345.1, bt345.2.1, bt345.2.2.1, bt345.2.2.2.1⟩ : S32)⟩ : S75), (⟨2, (⟨bt354.1, bt354.2.1, bt354.2.2.1, bt354.2.2.2.1⟩ : S32)⟩ : S75)] : List (S75)) : List (S75))).bind fun y362 => (if bt345.2.2.2.2 = true then (some (y362, bt354.2.2.2.2)) else (some (y362, false))))) else (none))) else (none)) else (spec_l4List.j1 k x0 x4)
def spec_l4List.j1 : Nat → List ByteArray → List (S75) → Option ((List (S75)) × Bool)
 | 0, _, _ => none
 | k + 1, x0, x4 => spec_l4List.l0 k x0 x4 0
def spec_l4List.l0 : Nat → List ByteArray → List (S75) → Int → Option ((List (S75)) × Bool)
 | 0, _, _, _ => none
 | k + 1, x0, x4, x9 => if x9 < (x0.length : Int) then (if 0 ≤ x9 then ((spec_l4Word.f k (rdOf ByteArray.empty x0 x9)).bind fun bt366 => (if bt366.2 = true then (if x4.length + bt366.1.length < 2513169434916 then (spec_l4List.l0 k x0 (x4 ++ bt366.1) (wrap64 (x9 + 1))) else (none)) else (some (x4, false)))) else (none)) else (some (x4, decide ((x4.length : Int) ≤ 4)))
end
def spec_l4List.f (k : Nat) (l0 : List ByteArray) : Option ((List (S75)) × Bool) := (some (([] : List (S75)) : List (S75))).bind fun y340 => (if (l0.length : Int) = 3 then (if 1 < (l0.length : Int) then (spec_l4List.j0 k l0 y340 ((rdOf ByteArray.empty l0 1).toList == ([45] : List UInt8))) else (none)) else (spec_l4List.j0 k l0 y340 false))
theorem spec_l4List.calls (k : Nat) (A0 : Option Addr) (c0 : Nat) (l0 : List ByteArray) (r1 : List (S75)) (r2 : Bool) (w : World) (hr0 : Kd.C Kd.string w A0 l0.length l0) (hc0 : l0.length ≤ c0) (h : spec_l4List.f k l0 = some (r1, r2)) :
  Calls Tryz.prog 77 #[.slice A0 l0.length c0] w fun e w' => ∃ v0_ : Value, e = .returned (.tuple #[v0_, .bool r2]) ∧ Kd.N k75 75 w' w.heap.size (fun k_ => (w.heap.size ≤ k_)) v0_ r1 ∧ Below w.heap.size w w' := by
 have hu32 := Tryz.underlying32
 have hu75 := Tryz.underlying75
 have HR0 := Aside0.mk hr0
 have HC0 := Aside0.mk hc0
 clear hr0 hc0
 have HB := zA (Below.refl w.heap.size w)
 unfold spec_l4List.f at h
 have H := h
 clear h
 obtain ⟨y340, hy340⟩ : ∃ y_ : List (S75), y_ = (([] : List (S75))) := ⟨_, rfl⟩
 replace H : (if (l0.length : Int) = 3 then (if 1 < (l0.length : Int) then (spec_l4List.j0 k l0 y340 ((rdOf ByteArray.empty l0 1).toList == ([45] : List UInt8))) else (none)) else (spec_l4List.j0 k l0 y340 false)) = some (r1, r2) := zY hy340 H
 have Ny340 := Aside0.mk hy340
 clear hy340
 have HC2 := Aside0.mk H
 clear H
 go_enter Tryz.func77, Tryz.ntmps77
 go_upto_region 2 with (first | ((with_reducible refine gate_dst (N := 12) rfl ?_); refine Kd.N_lit k75 _ 75 ?hg (N' := 12) ?hd (xs := ([] : List (S75))) (inner := []) (ok := (fun k_ => (w.heap.size ≤ k_))) ?hr ?hp (fun _ hk => hk) ((show ∀ k_, w.heap.size ≤ k_ → (fun k_ => (w.heap.size ≤ k_)) k_ from fun k_ hk => (Nat.le_trans (below_size (zB)) hk)) _ (Nat.le_refl _)) (Below.refl _ _) (Nat.le_refl _) (by simp) ?_; (case hd => rfl); (case hg => rfl); (case hr => first | (go_simp; done) | (go_simp; rfl)); (case hp => exact (Reps.none _ _)); intro v341 w3 ho4 hb hg_ hnew_; clear hg_ hnew_; (first | rw [← Ny340.out] at ho4 | (simp only [Int.reduceToNat] at ho4; rw [← Ny340.out] at ho4)); have HO342 := zA (Kd.N_lower ho4 (below_size (zB))); replace HB := zA (below_step (zB) hb); clear hb ho4))
 (try simp only [Act.put, zT])
 go_cut [21] (fun v21 wc => ∃ (kq : Nat) (x21_1 : Bool), v21 = .bool x21_1 ∧ Aside0 (spec_l4List.j0 kq l0 y340 x21_1 = some (r1, r2)) ∧ Aside0 (kq ≤ k) ∧ Aside0 (Kd.N k75 75 wc w.heap.size (fun k_ => (w.heap.size ≤ k_)) v341 y340) ∧ Aside0 (Below w.heap.size w wc))
 case first =>
  have H := HC2.out
  clear HC2
  replace H := zI1 H
  rcases H with ⟨c5, H⟩ | ⟨c5, H⟩
  ·have c5b0 := beq_iff_eq.mpr c5
   have c5b1 := bne_eq_false_iff_eq.mpr c5
   clear c5
   (first | rw [c5b0] | (simp only [i64_w, i32_w]; rw [c5b0]) | skip)
   replace H := zC0 H
   obtain ⟨c6, H⟩ := H
   have c6b0 := decide_eq_true c6
   have c6b1 : decide (1 < l0.length) = true := decide_eq_true (by omega)
   clear c6
   have H' := Aside0.mk H
   clear H
   have p343 : 0 ≤ (1 : Int) := (by omega)
   have q343 : 1 < (l0.length : Int) := zD
   obtain ⟨ad343, e343, hx343_0⟩ := Kd.at_string HR0.out 1 p343 q343
   cases e343
   (try simp only [show (1 : Int).toNat = 1 from rfl, Nat.reduceMul, Nat.reduceEqDiff, Go.Addr.add, ↓reduceIte] at hx343_0)
   have qi343 : (1 < l0.length) = True := eq_true (by omega)
   (try rw [show ((1 : Int)).toNat = 1 from rfl] at hx343_0)
   replace hx343_0 := zx HB hx343_0
   replace p343 := eq_true p343
   replace q343 := eq_true q343
   go_wp2
   go_meet
   case rel => exact ⟨_, (((rdOf ByteArray.empty l0 1).toList == ([45] : List UInt8))), zS, (by first | exact H' | (subst_vars; exact H')), ⟨by first | omega | exact Nat.le_refl _⟩, ⟨zN HO342.out⟩, ⟨zB⟩⟩
  ·have c5b0 := beq_eq_false_iff_ne.mpr c5
   have c5b1 := bne_iff_ne.mpr c5
   (first | rw [c5b0] | (simp only [i64_w, i32_w]; rw [c5b0]) | skip)
   have H' := Aside0.mk H
   clear H
   go_wp2
   go_meet
   case rel => exact ⟨_, (false), zS, (by first | exact H' | (subst_vars; exact H')), ⟨by first | omega | exact Nat.le_refl _⟩, ⟨zN HO342.out⟩, ⟨zB⟩⟩
 case rest =>
  clear HC2
  try clear p2
  try clear p3
  try clear q3
  try clear hx3
  try clear qi3
  try clear c5
  try clear c5b0
  try clear c5b1
  try clear c6
  try clear c6b0
  try clear c6b1
  try clear hx343_0
  try clear p343
  try clear q343
  obtain ⟨kq, x21_1, rfl, HA, HJ1, HO_4, HB⟩ := hcut
  cases kq with
  | zero => exact absurd HA.out (by simp [spec_l4List.j0])
  | succ kj1 =>
   have H := HA.out
   clear HA
   simp only [spec_l4List.j0] at H
   have HC7 := Aside0.mk H
   clear H
   go_upto_if 21 with (fail)
   go_cut [] (fun wc => ∃ (kq : Nat), Aside0 (spec_l4List.j1 kq l0 y340 = some (r1, r2)) ∧ Aside0 (kq ≤ kj1) ∧ Aside0 (Kd.N k75 75 wc w.heap.size (fun k_ => (w.heap.size ≤ k_)) v341 y340) ∧ Aside0 (Below w.heap.size w wc))
   case first =>
    have H := HC7.out
    clear HC7
    replace H := zB0 H
    rcases H with ⟨rfl, H⟩ | ⟨rfl, H⟩
    ·replace H := zC0 H
     obtain ⟨c9, H⟩ := H
     have c9b0 := decide_eq_true c9
     have c9b1 : decide (0 < l0.length) = true := decide_eq_true (by omega)
     clear c9
     (first | rw [c9b0] | (simp only [i64_w, i32_w]; rw [c9b0]) | skip)
     replace H := zj H
     obtain ⟨⟨t345, t346, t347, t348, t351⟩, A10, H⟩ := H
     try dsimp only at H
     replace H := zC0 H
     obtain ⟨c11, H⟩ := H
     have c11b0 := decide_eq_true c11
     have c11b1 : decide (2 < l0.length) = true := decide_eq_true (by omega)
     clear c11
     replace H := zj H
     obtain ⟨⟨t354, t355, t356, t357, t360⟩, A12, H⟩ := H
     try dsimp only at H
     obtain ⟨y362, hy362⟩ : ∃ y_ : List (S75), y_ = (([(⟨4, (⟨t345, t346, t347, t348⟩ : S32)⟩ : S75), (⟨2, (⟨t354, t355, t356, t357⟩ : S32)⟩ : S75)] : List (S75))) := ⟨_, rfl⟩
     replace H : (if t351 = true then (some (y362, t360)) else (some (y362, false))) = some (r1, r2) := zY hy362 H
     have Ny362 := Aside0.mk hy362
     clear hy362
     replace H := zB0 H
     rcases H with ⟨rfl, H⟩ | ⟨rfl, H⟩
     ·simp only [Option.some.injEq, Prod.mk.injEq] at H
      obtain ⟨rfl, rfl⟩ := H
      have p344 : 0 ≤ (0 : Int) := (by omega)
      have q344 : 0 < (l0.length : Int) := zD
      obtain ⟨ad344, e344, hx344_0⟩ := Kd.at_string HR0.out 0 p344 q344
      cases e344
      have qi344 : (0 < l0.length) = True := eq_true (by omega)
      (try rw [show ((0 : Int)).toNat = 0 from rfl] at hx344_0)
      (try rw [Addr.add_zero'] at hx344_0)
      replace hx344_0 := zx HB hx344_0
      replace p344 := eq_true p344
      replace q344 := eq_true q344
      go_wp2_with (first | ((with_reducible refine zq 124 ?_); refine zg (some 26) Tryz.func124 #[.string (rdOf ByteArray.empty l0 0)] ?_; (with_reducible refine (spec_ParseVer.calls kj1 (rdOf ByteArray.empty l0 0) t345 t346 t347 t348 true _ A10.out).mono ?_); rintro e w14 ⟨v349, rfl, ho0, hb⟩; refine ⟨_, rfl, ?_⟩; replace HO_4 := zA (Kd.N_elder' (zN HO_4.out) (Kd.R_base ho0) hb); have HO350 := zA (Kd.R_lower (Kd.R_newM (M := fun k_ => (w.heap.size ≤ k_)) ho0 (below_size (zB)) (fun k_ h_ => h_)) (below_size (zB))); replace HB := zA (below_step (zB) hb); (try clear hb ho0)) | ((with_reducible refine zd 5 ?_); refine ze 5 32 #[.int .i64 0, .int .i64 0, .int .i64 0, .slice none 0 0] ?_; intro gb352 hg w15 hbox hb; replace HO_4 := zA (Kd.N_below (Kd.N_elderB (zN HO_4.out) gb352 (Nat.le_of_eq hg.symm)) hb); replace HO350 := zr HO350 hb; have BK352 := zA (hbox); have GW352 := zi HB hg; have GE352 := zi HB hg; replace HB := zA (below_step (zB) hb); clear hb hbox hg; obtain ⟨hcz16_0, hcz16_1, hcz16_2, hcz16_3, hfz16_0, hfz16_1, hfz16_2, hfz16_3⟩ := ze4 BK352.out; obtain ⟨Ao17, co17, eo17⟩ := Kd.R_slice HO350.out; subst eo17; have p353 : 0 ≤ (2 : Int) := (by omega); have q353 : 2 < (l0.length : Int) := zD; obtain ⟨ad353, e353, hx353_0⟩ := Kd.at_string HR0.out 2 p353 q353; obtain rfl : ad344 = ad353 := (by injection e353); (try simp only [show (2 : Int).toNat = 2 from rfl, Nat.reduceMul, Nat.reduceEqDiff, Go.Addr.add, ↓reduceIte] at hx353_0); have qi353 : (2 < l0.length) = True := eq_true (by omega); (try rw [show ((2 : Int)).toNat = 2 from rfl] at hx353_0); have hn353_0 : ad344.block ≠ gb352 := Nat.ne_of_lt (Nat.lt_of_lt_of_le (by have := World.block_lt_of_cell? _ _ hx353_0; first | rwa [add_block] at this | exact this) GW352.out); have hn353_1 : ad344.block ≠ gb352 := Nat.ne_of_lt (Nat.lt_of_lt_of_le (by have := World.block_lt_of_cell? _ _ hx353_0; first | rwa [add_block] at this | exact this) GW352.out); have hn353_2 : ad344.block ≠ gb352 := Nat.ne_of_lt (Nat.lt_of_lt_of_le (by have := World.block_lt_of_cell? _ _ hx353_0; first | rwa [add_block] at this | exact this) GW352.out); have hn353_3 : ad344.block ≠ gb352 := Nat.ne_of_lt (Nat.lt_of_lt_of_le (by have := World.block_lt_of_cell? _ _ hx353_0; first | rwa [add_block] at this | exact this) GW352.out); replace hx353_0 := zx HB hx353_0; replace hx353_0 := (cell_far (p := ⟨gb352, 0, none⟩) (by first | (rw [add_block]; exact hn353_0) | (show (Addr.add _ _).block ≠ _; rw [add_block]; exact hn353_0) | exact hn353_0) (.int .i64 t345)).trans hx353_0; replace hx353_0 := (cell_far (p := ⟨gb352, 1, none⟩) (by first | (rw [add_block]; exact hn353_1) | (show (Addr.add _ _).block ≠ _; rw [add_block]; exact hn353_1) | exact hn353_1) (.int .i64 t346)).trans hx353_0; replace hx353_0 := (cell_far (p := ⟨gb352, 2, none⟩) (by first | (rw [add_block]; exact hn353_2) | (show (Addr.add _ _).block ≠ _; rw [add_block]; exact hn353_2) | exact hn353_2) (.int .i64 t347)).trans hx353_0; replace hx353_0 := (cell_far (p := ⟨gb352, 3, none⟩) (by first | (rw [add_block]; exact hn353_3) | (show (Addr.add _ _).block ≠ _; rw [add_block]; exact hn353_3) | exact hn353_3) (.slice Ao17 t348.length co17)).trans hx353_0; clear hn353_0; clear hn353_1; clear hn353_2; clear hn353_3; replace p353 := eq_true p353; replace q353 := eq_true q353) | ((with_reducible refine zq 124 ?_); refine zg (some 33) Tryz.func124 #[.string (rdOf ByteArray.empty l0 2)] ?_; (with_reducible refine (spec_ParseVer.calls kj1 (rdOf ByteArray.empty l0 2) t354 t355 t356 t357 t360 _ A12.out).mono ?_); rintro e w18 ⟨v358, rfl, ho0, hb⟩; refine ⟨_, rfl, ?_⟩; replace HO_4 := zA (Kd.N_elder' (zNt (zn4 HO_4.out (fun _ hk => hk.2))) (Kd.R_base ho0) hb); have HO359 := zA (Kd.R_lower (Kd.R_new' (Kd.R_newM (M := fun k_ => (w.heap.size ≤ k_)) ho0 (below_size (zW HB.out)) (fun k_ h_ => h_)) (Kd.R_lt (zR (zr4 HO350.out BK352.out)))) (below_size (zW HB.out))); replace HO350 := zA (Kd.R_elder' (zR (zr4 HO350.out BK352.out)) (Kd.R_base ho0) hb); replace BK352 := zA (blk_below (zk4 BK352.out) hb); replace HB := zh HB hb; (try clear hb ho0)) | ((with_reducible refine zd 7 ?_); refine ze 7 32 #[.int .i64 0, .int .i64 0, .int .i64 0, .slice none 0 0] ?_; intro gb361 hg w19 hbox hb; replace HO_4 := zA (Kd.N_below (Kd.N_elderB (zN HO_4.out) gb361 (Nat.le_of_eq hg.symm)) hb); replace HO350 := zr HO350 hb; replace HO359 := zr HO359 hb; have BK361 := zA (hbox); have GW361 := zi HB hg; have GE361 := zi HB hg; replace HB := zh HB hb; have NB352_361 := zA (zL hg (zK BK352.out)); have NB361_352 := zA (zJ hg (zK BK352.out)); replace BK352 := zb BK352 hb; clear hb hbox hg; have hnb20 := NB361_352.out; have hnc20 := NB352_361.out; obtain ⟨hcz21_0, hcz21_1, hcz21_2, hcz21_3, hfz21_0, hfz21_1, hfz21_2, hfz21_3⟩ := ze4 BK361.out; obtain ⟨Ao22, co22, eo22⟩ := Kd.R_slice HO359.out; subst eo22) | ((with_reducible refine gate_store (t := 32) (p := 7) rfl ?_); refine store_event (t := 32) (p := 7) (v := ?vo_w23) (w1 := ((((w19.setCell ⟨gb361, 0, none⟩ (.int .i64 t354)).setCell ⟨gb361, 1, none⟩ (.int .i64 t355)).setCell ⟨gb361, 2, none⟩ (.int .i64 t356)).setCell ⟨gb361, 3, none⟩ (.slice Ao22 t357.length co22))) ?hg ?ho ?hn ?hr ?_; (case ho => rfl); (case hg => rfl); (case hn => rfl); (case hr => first | (go_simp; done) | (go_simp; rfl)); intro w23 hw; have n0_ : Aside0 (Kd.N k75 75 w23 w.heap.size (fun k_ => (w.heap.size ≤ k_) ∧ some k_ ≠ (.slice Ao17 t348.length co17 : Value).ownBlock ∧ some k_ ≠ (.slice Ao22 t357.length co22 : Value).ownBlock ∧ k_ ≠ gb352 ∧ k_ ≠ gb361) v341 y340) := ⟨(by rw [hw]; exact (zNt (Kd.N_mono (zn4 HO_4.out (fun _ hk => hk.2)) (fun _ hk => ⟨hk.1.1.1.1, ⟨hk.1.1.1.2, ⟨hk.1.2, ⟨hk.1.1.2, hk.2⟩⟩⟩⟩))))⟩; have n1_ : Aside0 (Kd.R Kd.string 9 w23 w.heap.size (fun k_ => (w.heap.size ≤ k_) ∧ some k_ ≠ (.slice Ao22 t357.length co22 : Value).ownBlock) (.slice Ao17 t348.length co17) t348) := ⟨(by rw [hw]; exact (zR (Kd.R_mono (zr4 HO350.out BK361.out) (fun _ hk => ⟨hk.1.1, hk.2⟩))))⟩; have n2_ : Aside0 (Kd.R Kd.string 9 w23 w.heap.size (fun k_ => (w.heap.size ≤ k_) ∧ some k_ ≠ (.slice Ao17 t348.length co17 : Value).ownBlock) (.slice Ao22 t357.length co22) t357) := ⟨(by rw [hw]; exact (zR (Kd.R_mono (zr4 HO359.out BK361.out) (fun _ hk => ⟨hk.1.1, hk.2⟩))))⟩; have n3_ := zA (zh1 hw (zK BK352.out)); have n4_ := zA (zh1 hw (zk4 BK361.out)); have n5_ := zA (zh2 hw (zW HB.out)); clear hw; clear HO_4; clear HO350; clear HO359; clear BK352; clear BK361; clear HB; have HO_4 := n0_; have HO350 := n1_; have HO359 := n2_; have BK352 := n3_; have BK361 := n4_; have HB := n5_; clear n0_ n1_ n2_ n3_ n4_ n5_; obtain ⟨hcz24_0, hcz24_1, hcz24_2, hcz24_3, hfz24_0, hfz24_1, hfz24_2, hfz24_3⟩ := ze4 BK352.out; obtain ⟨hcz25_0, hcz25_1, hcz25_2, hcz25_3, hfz25_0, hfz25_1, hfz25_2, hfz25_3⟩ := ze4 BK361.out) | ((with_reducible refine gate_dst (N := 40) rfl ?_); refine Kd.N_lit k75 _ 75 ?hg (N' := 40) ?hd (xs := ([(⟨4, (⟨t345, t346, t347, t348⟩ : S32)⟩ : S75), (⟨2, (⟨t354, t355, t356, t357⟩ : S32)⟩ : S75)] : List (S75))) (inner := [.int .i64 4, .int .i64 t345, .int .i64 t346, .int .i64 t347, .slice Ao17 t348.length co17, .int .i64 2, .int .i64 t354, .int .i64 t355, .int .i64 t356, .slice Ao22 t357.length co22]) (ok := (fun k_ => (w.heap.size ≤ k_) ∧ some k_ ≠ (v341 : Value).ownBlock ∧ k_ ≠ gb352 ∧ k_ ≠ gb361)) ?hr ?hp (fun _ hk => hk) ((show ∀ k_, w23.heap.size ≤ k_ → (fun k_ => (w.heap.size ≤ k_) ∧ some k_ ≠ (v341 : Value).ownBlock ∧ k_ ≠ gb352 ∧ k_ ≠ gb361) k_ from fun k_ hk => ⟨(Nat.le_trans (below_size (zW HB.out)) hk), Kd.fresh' (Kd.N_lt (zN HO_4.out)) k_ hk, Kd.freshB (g := gb352) (o := .cells #[.int .i64 t345, .int .i64 t346, .int .i64 t347, .slice Ao17 t348.length co17] 32 (0, 0)) (zK BK352.out) k_ hk, Kd.freshB (g := gb361) (o := .cells #[.int .i64 t354, .int .i64 t355, .int .i64 t356, .slice Ao22 t357.length co22] 32 (0, 0)) (zK BK361.out) k_ hk⟩) _ (Nat.le_refl _)) (Below.refl _ _) (Nat.le_refl _) (by simp) ?_; (case hd => rfl); (case hg => rfl); (case hr => first | (go_simp; done) | (go_simp; rfl)); (case hp => exact (Reps.c5 (show Kd.FK k75 _ _ (⟨4, (⟨t345, t346, t347, t348⟩ : S32)⟩ : S75) [.int .i64 4, .int .i64 t345, .int .i64 t346, .int .i64 t347, .slice Ao17 t348.length co17] from (k75_mkF _ _ (⟨4, (⟨t345, t346, t347, t348⟩ : S32)⟩ : S75) (Kd.R_reads' (Kd.R_mono (ok' := (fun k_ => (w.heap.size ≤ k_) ∧ some k_ ≠ (v341 : Value).ownBlock ∧ k_ ≠ gb352 ∧ k_ ≠ gb361)) (Kd.R_types (Kd.R_types (Kd.R_apart' (HO350.out) (Kd.N_typed HO_4.out) (by decide)) BK352.out (by decide)) BK361.out (by decide)) (fun k_ hk => ⟨hk.1.1.1.1, ⟨hk.1.1.2, ⟨hk.1.2, hk.2⟩⟩⟩))).2.1 (Kd.R_F (Kd.R_mono (ok' := (fun k_ => (w.heap.size ≤ k_) ∧ some k_ ≠ (v341 : Value).ownBlock ∧ k_ ≠ gb352 ∧ k_ ≠ gb361)) (Kd.R_types (Kd.R_types (Kd.R_apart' (HO350.out) (Kd.N_typed HO_4.out) (by decide)) BK352.out (by decide)) BK361.out (by decide)) (fun k_ hk => ⟨hk.1.1.1.1, ⟨hk.1.1.2, ⟨hk.1.2, hk.2⟩⟩⟩))))) (Reps.c5 (show Kd.FK k75 _ _ (⟨2, (⟨t354, t355, t356, t357⟩ : S32)⟩ : S75) [.int .i64 2, .int .i64 t354, .int .i64 t355, .int .i64 t356, .slice Ao22 t357.length co22] from (k75_mkF _ _ (⟨2, (⟨t354, t355, t356, t357⟩ : S32)⟩ : S75) (Kd.R_reads' (Kd.R_mono (ok' := (fun k_ => (w.heap.size ≤ k_) ∧ some k_ ≠ (v341 : Value).ownBlock ∧ k_ ≠ gb352 ∧ k_ ≠ gb361)) (Kd.R_types (Kd.R_types (Kd.R_apart' (HO359.out) (Kd.N_typed HO_4.out) (by decide)) BK352.out (by decide)) BK361.out (by decide)) (fun k_ hk => ⟨hk.1.1.1.1, ⟨hk.1.1.2, ⟨hk.1.2, hk.2⟩⟩⟩))).2.1 (Kd.R_F (Kd.R_mono (ok' := (fun k_ => (w.heap.size ≤ k_) ∧ some k_ ≠ (v341 : Value).ownBlock ∧ k_ ≠ gb352 ∧ k_ ≠ gb361)) (Kd.R_types (Kd.R_types (Kd.R_apart' (HO359.out) (Kd.N_typed HO_4.out) (by decide)) BK352.out (by decide)) BK361.out (by decide)) (fun k_ hk => ⟨hk.1.1.1.1, ⟨hk.1.1.2, ⟨hk.1.2, hk.2⟩⟩⟩))))) (Reps.none _ _)))); intro v363 w26 ho27 hb hg_ hnew_; clear hg_ hnew_; (first | rw [← Ny362.out] at ho27 | (simp only [Int.reduceToNat] at ho27; rw [← Ny362.out] at ho27)); replace HO_4 := zA (Kd.N_elder' (zN HO_4.out) (Kd.N_base ho27) hb); have HO364 := zA (Kd.N_lower ho27 (below_size (zW HB.out))); replace BK352 := zb BK352 hb; replace BK361 := zb BK361 hb; replace HB := zh HB hb; clear HO350 HO359; clear hb ho27))
      go_ret2
      exact ⟨_, zE, zNt (Kd.N_mono HO364.out (fun _ hk => hk.1)), zW HB.out⟩
     ·simp only [Option.some.injEq, Prod.mk.injEq] at H
      obtain ⟨rfl, rfl⟩ := H
      have p344 : 0 ≤ (0 : Int) := (by omega)
      have q344 : 0 < (l0.length : Int) := zD
      obtain ⟨ad344, e344, hx344_0⟩ := Kd.at_string HR0.out 0 p344 q344
      cases e344
      have qi344 : (0 < l0.length) = True := eq_true (by omega)
      (try rw [show ((0 : Int)).toNat = 0 from rfl] at hx344_0)
      (try rw [Addr.add_zero'] at hx344_0)
      replace hx344_0 := zx HB hx344_0
      replace p344 := eq_true p344
      replace q344 := eq_true q344
      go_wp2_with (first | ((with_reducible refine zq 124 ?_); refine zg (some 26) Tryz.func124 #[.string (rdOf ByteArray.empty l0 0)] ?_; (with_reducible refine (spec_ParseVer.calls kj1 (rdOf ByteArray.empty l0 0) t345 t346 t347 t348 false _ A10.out).mono ?_); rintro e w28 ⟨v349, rfl, ho0, hb⟩; refine ⟨_, rfl, ?_⟩; replace HO_4 := zA (Kd.N_elder' (zN HO_4.out) (Kd.R_base ho0) hb); have HO350 := zA (Kd.R_lower (Kd.R_newM (M := fun k_ => (w.heap.size ≤ k_)) ho0 (below_size (zB)) (fun k_ h_ => h_)) (below_size (zB))); replace HB := zA (below_step (zB) hb); (try clear hb ho0)) | ((with_reducible refine zd 5 ?_); refine ze 5 32 #[.int .i64 0, .int .i64 0, .int .i64 0, .slice none 0 0] ?_; intro gb352 hg w29 hbox hb; replace HO_4 := zA (Kd.N_below (Kd.N_elderB (zN HO_4.out) gb352 (Nat.le_of_eq hg.symm)) hb); replace HO350 := zr HO350 hb; have BK352 := zA (hbox); have GW352 := zi HB hg; have GE352 := zi HB hg; replace HB := zA (below_step (zB) hb); clear hb hbox hg; obtain ⟨hcz30_0, hcz30_1, hcz30_2, hcz30_3, hfz30_0, hfz30_1, hfz30_2, hfz30_3⟩ := ze4 BK352.out; obtain ⟨Ao31, co31, eo31⟩ := Kd.R_slice HO350.out; subst eo31; have p353 : 0 ≤ (2 : Int) := (by omega); have q353 : 2 < (l0.length : Int) := zD; obtain ⟨ad353, e353, hx353_0⟩ := Kd.at_string HR0.out 2 p353 q353; obtain rfl : ad344 = ad353 := (by injection e353); (try simp only [show (2 : Int).toNat = 2 from rfl, Nat.reduceMul, Nat.reduceEqDiff, Go.Addr.add, ↓reduceIte] at hx353_0); have qi353 : (2 < l0.length) = True := eq_true (by omega); (try rw [show ((2 : Int)).toNat = 2 from rfl] at hx353_0); have hn353_0 : ad344.block ≠ gb352 := Nat.ne_of_lt (Nat.lt_of_lt_of_le (by have := World.block_lt_of_cell? _ _ hx353_0; first | rwa [add_block] at this | exact this) GW352.out); have hn353_1 : ad344.block ≠ gb352 := Nat.ne_of_lt (Nat.lt_of_lt_of_le (by have := World.block_lt_of_cell? _ _ hx353_0; first | rwa [add_block] at this | exact this) GW352.out); have hn353_2 : ad344.block ≠ gb352 := Nat.ne_of_lt (Nat.lt_of_lt_of_le (by have := World.block_lt_of_cell? _ _ hx353_0; first | rwa [add_block] at this | exact this) GW352.out); have hn353_3 : ad344.block ≠ gb352 := Nat.ne_of_lt (Nat.lt_of_lt_of_le (by have := World.block_lt_of_cell? _ _ hx353_0; first | rwa [add_block] at this | exact this) GW352.out); replace hx353_0 := zx HB hx353_0; replace hx353_0 := (cell_far (p := ⟨gb352, 0, none⟩) (by first | (rw [add_block]; exact hn353_0) | (show (Addr.add _ _).block ≠ _; rw [add_block]; exact hn353_0) | exact hn353_0) (.int .i64 t345)).trans hx353_0; replace hx353_0 := (cell_far (p := ⟨gb352, 1, none⟩) (by first | (rw [add_block]; exact hn353_1) | (show (Addr.add _ _).block ≠ _; rw [add_block]; exact hn353_1) | exact hn353_1) (.int .i64 t346)).trans hx353_0; replace hx353_0 := (cell_far (p := ⟨gb352, 2, none⟩) (by first | (rw [add_block]; exact hn353_2) | (show (Addr.add _ _).block ≠ _; rw [add_block]; exact hn353_2) | exact hn353_2) (.int .i64 t347)).trans hx353_0; replace hx353_0 := (cell_far (p := ⟨gb352, 3, none⟩) (by first | (rw [add_block]; exact hn353_3) | (show (Addr.add _ _).block ≠ _; rw [add_block]; exact hn353_3) | exact hn353_3) (.slice Ao31 t348.length co31)).trans hx353_0; clear hn353_0; clear hn353_1; clear hn353_2; clear hn353_3; replace p353 := eq_true p353; replace q353 := eq_true q353) | ((with_reducible refine zq 124 ?_); refine zg (some 33) Tryz.func124 #[.string (rdOf ByteArray.empty l0 2)] ?_; (with_reducible refine (spec_ParseVer.calls kj1 (rdOf ByteArray.empty l0 2) t354 t355 t356 t357 t360 _ A12.out).mono ?_); rintro e w32 ⟨v358, rfl, ho0, hb⟩; refine ⟨_, rfl, ?_⟩; replace HO_4 := zA (Kd.N_elder' (zNt (zn4 HO_4.out (fun _ hk => hk.2))) (Kd.R_base ho0) hb); have HO359 := zA (Kd.R_lower (Kd.R_new' (Kd.R_newM (M := fun k_ => (w.heap.size ≤ k_)) ho0 (below_size (zW HB.out)) (fun k_ h_ => h_)) (Kd.R_lt (zR (zr4 HO350.out BK352.out)))) (below_size (zW HB.out))); replace HO350 := zA (Kd.R_elder' (zR (zr4 HO350.out BK352.out)) (Kd.R_base ho0) hb); replace BK352 := zA (blk_below (zk4 BK352.out) hb); replace HB := zh HB hb; (try clear hb ho0)) | ((with_reducible refine zd 7 ?_); refine ze 7 32 #[.int .i64 0, .int .i64 0, .int .i64 0, .slice none 0 0] ?_; intro gb361 hg w33 hbox hb; replace HO_4 := zA (Kd.N_below (Kd.N_elderB (zN HO_4.out) gb361 (Nat.le_of_eq hg.symm)) hb); replace HO350 := zr HO350 hb; replace HO359 := zr HO359 hb; have BK361 := zA (hbox); have GW361 := zi HB hg; have GE361 := zi HB hg; replace HB := zh HB hb; have NB352_361 := zA (zL hg (zK BK352.out)); have NB361_352 := zA (zJ hg (zK BK352.out)); replace BK352 := zb BK352 hb; clear hb hbox hg; have hnb34 := NB361_352.out; have hnc34 := NB352_361.out; obtain ⟨hcz35_0, hcz35_1, hcz35_2, hcz35_3, hfz35_0, hfz35_1, hfz35_2, hfz35_3⟩ := ze4 BK361.out; obtain ⟨Ao36, co36, eo36⟩ := Kd.R_slice HO359.out; subst eo36) | ((with_reducible refine gate_store (t := 32) (p := 7) rfl ?_); refine store_event (t := 32) (p := 7) (v := ?vo_w37) (w1 := ((((w33.setCell ⟨gb361, 0, none⟩ (.int .i64 t354)).setCell ⟨gb361, 1, none⟩ (.int .i64 t355)).setCell ⟨gb361, 2, none⟩ (.int .i64 t356)).setCell ⟨gb361, 3, none⟩ (.slice Ao36 t357.length co36))) ?hg ?ho ?hn ?hr ?_; (case ho => rfl); (case hg => rfl); (case hn => rfl); (case hr => first | (go_simp; done) | (go_simp; rfl)); intro w37 hw; have n0_ : Aside0 (Kd.N k75 75 w37 w.heap.size (fun k_ => (w.heap.size ≤ k_) ∧ some k_ ≠ (.slice Ao31 t348.length co31 : Value).ownBlock ∧ some k_ ≠ (.slice Ao36 t357.length co36 : Value).ownBlock ∧ k_ ≠ gb352 ∧ k_ ≠ gb361) v341 y340) := ⟨(by rw [hw]; exact (zNt (Kd.N_mono (zn4 HO_4.out (fun _ hk => hk.2)) (fun _ hk => ⟨hk.1.1.1.1, ⟨hk.1.1.1.2, ⟨hk.1.2, ⟨hk.1.1.2, hk.2⟩⟩⟩⟩))))⟩; have n1_ : Aside0 (Kd.R Kd.string 9 w37 w.heap.size (fun k_ => (w.heap.size ≤ k_) ∧ some k_ ≠ (.slice Ao36 t357.length co36 : Value).ownBlock) (.slice Ao31 t348.length co31) t348) := ⟨(by rw [hw]; exact (zR (Kd.R_mono (zr4 HO350.out BK361.out) (fun _ hk => ⟨hk.1.1, hk.2⟩))))⟩; have n2_ : Aside0 (Kd.R Kd.string 9 w37 w.heap.size (fun k_ => (w.heap.size ≤ k_) ∧ some k_ ≠ (.slice Ao31 t348.length co31 : Value).ownBlock) (.slice Ao36 t357.length co36) t357) := ⟨(by rw [hw]; exact (zR (Kd.R_mono (zr4 HO359.out BK361.out) (fun _ hk => ⟨hk.1.1, hk.2⟩))))⟩; have n3_ := zA (zh1 hw (zK BK352.out)); have n4_ := zA (zh1 hw (zk4 BK361.out)); have n5_ := zA (zh2 hw (zW HB.out)); clear hw; clear HO_4; clear HO350; clear HO359; clear BK352; clear BK361; clear HB; have HO_4 := n0_; have HO350 := n1_; have HO359 := n2_; have BK352 := n3_; have BK361 := n4_; have HB := n5_; clear n0_ n1_ n2_ n3_ n4_ n5_; obtain ⟨hcz38_0, hcz38_1, hcz38_2, hcz38_3, hfz38_0, hfz38_1, hfz38_2, hfz38_3⟩ := ze4 BK352.out; obtain ⟨hcz39_0, hcz39_1, hcz39_2, hcz39_3, hfz39_0, hfz39_1, hfz39_2, hfz39_3⟩ := ze4 BK361.out) | ((with_reducible refine gate_dst (N := 40) rfl ?_); refine Kd.N_lit k75 _ 75 ?hg (N' := 40) ?hd (xs := ([(⟨4, (⟨t345, t346, t347, t348⟩ : S32)⟩ : S75), (⟨2, (⟨t354, t355, t356, t357⟩ : S32)⟩ : S75)] : List (S75))) (inner := [.int .i64 4, .int .i64 t345, .int .i64 t346, .int .i64 t347, .slice Ao31 t348.length co31, .int .i64 2, .int .i64 t354, .int .i64 t355, .int .i64 t356, .slice Ao36 t357.length co36]) (ok := (fun k_ => (w.heap.size ≤ k_) ∧ some k_ ≠ (v341 : Value).ownBlock ∧ k_ ≠ gb352 ∧ k_ ≠ gb361)) ?hr ?hp (fun _ hk => hk) ((show ∀ k_, w37.heap.size ≤ k_ → (fun k_ => (w.heap.size ≤ k_) ∧ some k_ ≠ (v341 : Value).ownBlock ∧ k_ ≠ gb352 ∧ k_ ≠ gb361) k_ from fun k_ hk => ⟨(Nat.le_trans (below_size (zW HB.out)) hk), Kd.fresh' (Kd.N_lt (zN HO_4.out)) k_ hk, Kd.freshB (g := gb352) (o := .cells #[.int .i64 t345, .int .i64 t346, .int .i64 t347, .slice Ao31 t348.length co31] 32 (0, 0)) (zK BK352.out) k_ hk, Kd.freshB (g := gb361) (o := .cells #[.int .i64 t354, .int .i64 t355, .int .i64 t356, .slice Ao36 t357.length co36] 32 (0, 0)) (zK BK361.out) k_ hk⟩) _ (Nat.le_refl _)) (Below.refl _ _) (Nat.le_refl _) (by simp) ?_; (case hd => rfl); (case hg => rfl); (case hr => first | (go_simp; done) | (go_simp; rfl)); (case hp => exact (Reps.c5 (show Kd.FK k75 _ _ (⟨4, (⟨t345, t346, t347, t348⟩ : S32)⟩ : S75) [.int .i64 4, .int .i64 t345, .int .i64 t346, .int .i64 t347, .slice Ao31 t348.length co31] from (k75_mkF _ _ (⟨4, (⟨t345, t346, t347, t348⟩ : S32)⟩ : S75) (Kd.R_reads' (Kd.R_mono (ok' := (fun k_ => (w.heap.size ≤ k_) ∧ some k_ ≠ (v341 : Value).ownBlock ∧ k_ ≠ gb352 ∧ k_ ≠ gb361)) (Kd.R_types (Kd.R_types (Kd.R_apart' (HO350.out) (Kd.N_typed HO_4.out) (by decide)) BK352.out (by decide)) BK361.out (by decide)) (fun k_ hk => ⟨hk.1.1.1.1, ⟨hk.1.1.2, ⟨hk.1.2, hk.2⟩⟩⟩))).2.1 (Kd.R_F (Kd.R_mono (ok' := (fun k_ => (w.heap.size ≤ k_) ∧ some k_ ≠ (v341 : Value).ownBlock ∧ k_ ≠ gb352 ∧ k_ ≠ gb361)) (Kd.R_types (Kd.R_types (Kd.R_apart' (HO350.out) (Kd.N_typed HO_4.out) (by decide)) BK352.out (by decide)) BK361.out (by decide)) (fun k_ hk => ⟨hk.1.1.1.1, ⟨hk.1.1.2, ⟨hk.1.2, hk.2⟩⟩⟩))))) (Reps.c5 (show Kd.FK k75 _ _ (⟨2, (⟨t354, t355, t356, t357⟩ : S32)⟩ : S75) [.int .i64 2, .int .i64 t354, .int .i64 t355, .int .i64 t356, .slice Ao36 t357.length co36] from (k75_mkF _ _ (⟨2, (⟨t354, t355, t356, t357⟩ : S32)⟩ : S75) (Kd.R_reads' (Kd.R_mono (ok' := (fun k_ => (w.heap.size ≤ k_) ∧ some k_ ≠ (v341 : Value).ownBlock ∧ k_ ≠ gb352 ∧ k_ ≠ gb361)) (Kd.R_types (Kd.R_types (Kd.R_apart' (HO359.out) (Kd.N_typed HO_4.out) (by decide)) BK352.out (by decide)) BK361.out (by decide)) (fun k_ hk => ⟨hk.1.1.1.1, ⟨hk.1.1.2, ⟨hk.1.2, hk.2⟩⟩⟩))).2.1 (Kd.R_F (Kd.R_mono (ok' := (fun k_ => (w.heap.size ≤ k_) ∧ some k_ ≠ (v341 : Value).ownBlock ∧ k_ ≠ gb352 ∧ k_ ≠ gb361)) (Kd.R_types (Kd.R_types (Kd.R_apart' (HO359.out) (Kd.N_typed HO_4.out) (by decide)) BK352.out (by decide)) BK361.out (by decide)) (fun k_ hk => ⟨hk.1.1.1.1, ⟨hk.1.1.2, ⟨hk.1.2, hk.2⟩⟩⟩))))) (Reps.none _ _)))); intro v363 w40 ho41 hb hg_ hnew_; clear hg_ hnew_; (first | rw [← Ny362.out] at ho41 | (simp only [Int.reduceToNat] at ho41; rw [← Ny362.out] at ho41)); replace HO_4 := zA (Kd.N_elder' (zN HO_4.out) (Kd.N_base ho41) hb); have HO364 := zA (Kd.N_lower ho41 (below_size (zW HB.out))); replace BK352 := zb BK352 hb; replace BK361 := zb BK361 hb; replace HB := zh HB hb; clear HO350 HO359; clear hb ho41))
      go_ret2
      exact ⟨_, zE, zNt (Kd.N_mono HO364.out (fun _ hk => hk.1)), zW HB.out⟩
    ·have H' := Aside0.mk H
     clear H
     go_wp2
     go_meet
     case rel => exact ⟨_, (by first | exact H' | (subst_vars; exact H')), ⟨by have := HJ1.out; first | omega | exact Nat.le_refl _⟩, ⟨zN HO_4.out⟩, ⟨zB⟩⟩
   case rest =>
    clear HC7
    try clear c1
    try clear c2
    try clear p2
    try clear c3
    try clear p3
    try clear q3
    try clear hx3
    try clear qi3
    try clear c5
    try clear c5b0
    try clear c5b1
    try clear c6
    try clear c6b0
    try clear c6b1
    try clear c7
    try clear c8
    try clear c9
    try clear c9b0
    try clear c9b1
    try clear c11
    try clear c11b0
    try clear c11b1
    try clear c12
    try clear c13
    try clear c20
    try clear c34
    try clear p34
    try clear q34
    try clear hx34
    try clear qi34
    try clear p35
    try clear q35
    try clear hx35
    try clear qi35
    try clear hcz16_0 hcz16_1 hcz16_2 hcz16_3 hfz16_0 hfz16_1 hfz16_2 hfz16_3
    try clear hcz21_0 hcz21_1 hcz21_2 hcz21_3 hfz21_0 hfz21_1 hfz21_2 hfz21_3
    try clear hcz24_0 hcz24_1 hcz24_2 hcz24_3 hfz24_0 hfz24_1 hfz24_2 hfz24_3
    try clear hcz25_0 hcz25_1 hcz25_2 hcz25_3 hfz25_0 hfz25_1 hfz25_2 hfz25_3
    try clear hcz30_0 hcz30_1 hcz30_2 hcz30_3 hfz30_0 hfz30_1 hfz30_2 hfz30_3
    try clear hcz35_0 hcz35_1 hcz35_2 hcz35_3 hfz35_0 hfz35_1 hfz35_2 hfz35_3
    try clear hcz38_0 hcz38_1 hcz38_2 hcz38_3 hfz38_0 hfz38_1 hfz38_2 hfz38_3
    try clear hcz39_0 hcz39_1 hcz39_2 hcz39_3 hfz39_0 hfz39_1 hfz39_2 hfz39_3
    try clear hx343_0
    try clear hx344_0
    try clear hx353_0
    try clear p2
    try clear p3
    try clear p343
    try clear p344
    try clear p353
    try clear q3
    try clear q343
    try clear q344
    try clear q353
    obtain ⟨kq, HA, HJ6, HO_4, HB⟩ := hcut
    cases kq with
    | zero => exact absurd HA.out (by simp [spec_l4List.j1])
    | succ kj6 =>
     have H := HA.out
     clear HA
     simp only [spec_l4List.j1] at H
     have H' := Aside0.mk H
     clear H
     go_wp2
     go_loopg [4, 9] kj6 (fun kq v4 v9 w' => ∃ (x4_3 : List (S75)) (x9_3 : Int), v9 = .int .i64 x9_3 ∧ Aside0 (spec_l4List.l0 kq l0 x4_3 x9_3 = some (r1, r2)) ∧ Aside0 (kq ≤ kj6) ∧ Aside0 (Kd.N k75 75 w' w.heap.size (fun k_ => (w.heap.size ≤ k_)) v4 x4_3) ∧ Aside0 (Below w.heap.size w w'))
     case atStart => exact ⟨(y340), (0), zS, H', ⟨Nat.le_refl _⟩, ⟨zN HO_4.out⟩, ⟨zB⟩⟩
     case round =>
      clear H'
      try clear c1
      try clear c2
      try clear p2
      try clear c3
      try clear p3
      try clear q3
      try clear hx3
      try clear qi3
      try clear c5
      try clear c5b0
      try clear c5b1
      try clear c6
      try clear c6b0
      try clear c6b1
      try clear c7
      try clear c8
      try clear c9
      try clear c9b0
      try clear c9b1
      try clear c11
      try clear c11b0
      try clear c11b1
      try clear c12
      try clear c13
      try clear c20
      try clear c34
      try clear p34
      try clear q34
      try clear hx34
      try clear qi34
      try clear p35
      try clear q35
      try clear hx35
      try clear qi35
      try clear hcz16_0 hcz16_1 hcz16_2 hcz16_3 hfz16_0 hfz16_1 hfz16_2 hfz16_3
      try clear hcz21_0 hcz21_1 hcz21_2 hcz21_3 hfz21_0 hfz21_1 hfz21_2 hfz21_3
      try clear hcz24_0 hcz24_1 hcz24_2 hcz24_3 hfz24_0 hfz24_1 hfz24_2 hfz24_3
      try clear hcz25_0 hcz25_1 hcz25_2 hcz25_3 hfz25_0 hfz25_1 hfz25_2 hfz25_3
      try clear hcz30_0 hcz30_1 hcz30_2 hcz30_3 hfz30_0 hfz30_1 hfz30_2 hfz30_3
      try clear hcz35_0 hcz35_1 hcz35_2 hcz35_3 hfz35_0 hfz35_1 hfz35_2 hfz35_3
      try clear hcz38_0 hcz38_1 hcz38_2 hcz38_3 hfz38_0 hfz38_1 hfz38_2 hfz38_3
      try clear hcz39_0 hcz39_1 hcz39_2 hcz39_3 hfz39_0 hfz39_1 hfz39_2 hfz39_3
      try clear hx343_0
      try clear hx344_0
      try clear hx353_0
      try clear p2
      try clear p3
      try clear p34
      try clear p343
      try clear p344
      try clear p35
      try clear p353
      try clear q3
      try clear q34
      try clear q343
      try clear q344
      try clear q35
      try clear q353
      obtain ⟨x4_3, x9_3, rfl, HA, HK3, HO_4, HB⟩ := hrel
      cases gk with
      | zero => exact absurd HA.out (by simp [spec_l4List.l0])
      | succ k3 =>
       have H := HA.out
       clear HA
       simp only [spec_l4List.l0] at H
       replace H := zI0 H
       rcases H with ⟨c42b0, H⟩ | ⟨c42b0, H⟩
       ·replace H := zD0 H
        obtain ⟨c43b0, H⟩ := H
        replace H := zj H
        obtain ⟨⟨t366, t369⟩, A44, H⟩ := H
        try dsimp only at H
        replace H := zB0 H
        rcases H with ⟨rfl, H⟩ | ⟨rfl, H⟩
        ·replace H := zC0 H
         obtain ⟨c46, H⟩ := H
         have LMc46 := Aside0.mk c46
         clear c46
         obtain ⟨y370, hy370⟩ : ∃ y_ : List (S75), y_ = (x4_3 ++ t366) := ⟨_, rfl⟩
         replace H : (spec_l4List.l0 k3 l0 y370 (wrap64 (x9_3 + 1))) = some (r1, r2) := zY hy370 H
         have Ny370 := Aside0.mk hy370
         clear hy370
         have H' := Aside0.mk H
         clear H
         have p365 : 0 ≤ (x9_3 : Int) := zD
         have q365 : x9_3 < (l0.length : Int) := zD
         obtain ⟨ad365, e365, hx365_0⟩ := Kd.at_string HR0.out x9_3 p365 q365
         cases e365
         replace hx365_0 := zx HB hx365_0
         replace p365 := eq_true p365
         replace q365 := eq_true q365
         go_wp2_with (first | ((with_reducible refine zq 125 ?_); refine zg (some 56) Tryz.func125 #[.string (rdOf ByteArray.empty l0 x9_3)] ?_; (with_reducible refine (spec_l4Word.calls k3 (rdOf ByteArray.empty l0 x9_3) t366 true _ A44.out).mono ?_); rintro e w47 ⟨v367, rfl, ho0, hb⟩; refine ⟨_, rfl, ?_⟩; have HO368 := zA (Kd.N_lower (Kd.N_mono (ok' := fun k_ => (w.heap.size ≤ k_) ∧ some k_ ≠ (u4 : Value).ownBlock) ho0 (fun k_ hk_ => ⟨(Nat.le_trans (below_size (zB)) hk_), (Kd.fresh' (Kd.N_lt (zN HO_4.out)) k_ hk_)⟩)) (below_size (zB))); replace HO_4 := zA (Kd.N_elder' (zN HO_4.out) (Kd.N_base ho0) hb); replace HB := zA (below_step (zB) hb); (try clear hb ho0); obtain ⟨Ao49, co49, eo49⟩ := Kd.N_slice HO368.out; subst eo49) | ((with_reducible refine gate_builtin (b := .append) (xs := #[.tmp 62, .tmp 63]) rfl ?_); at_builtin; refine Kd.N_append_rows k75 (w0 := w) w.heap.size rfl (.tmp 62) (.tmp 63) 108 75 (.agg #[(.int .i64 0), (.int .i64 0), (.int .i64 0), (.int .i64 0), (.slice none 0 0)]) 56 rfl Tryz.underlying108 info75 rfl (by decide) (by omega) u4 x4_3 t366 _ _ _ (fun k_ => (w.heap.size ≤ k_)) (fun k_ => ((fun k_ => (w.heap.size ≤ k_))) k_ ∧ some k_ ≠ (u4 : Value).ownBlock) rfl rfl ?aO ?aR (fun _ hk => hk) ?aF ?aB ?aS ?aL ?_; (case aR => exact (by skip; exact Kd.N_F (Kd.N_mono (ok' := (fun k_ => ((fun k_ => (w.heap.size ≤ k_))) k_ ∧ some k_ ≠ (u4 : Value).ownBlock)) (HO368.out) (fun k_ hk => ⟨hk.1, hk.2⟩)))); (case aB => exact (zB)); (case aF => exact (fun k_ hk => (Nat.le_trans (below_size (zB)) hk))); (case aO => exact (zNt (Kd.N_mono HO_4.out (fun _ hk => hk.1)))); (case aS => exact (below_size (zB))); (case aL => have := LMc46.out; omega); intro v371 w48 ho hb hg hat; rw [← Ny370.out] at ho; replace HO368 := zA (Kd.N_afterv (ok := (fun k_ => (w.heap.size ≤ k_))) (zN HO368.out) hg hat); replace HB := zA (hb); have HO372 := zA (ho); clear HO_4; clear ho hb hg hat))
         go_roundg k3
         case measure => have := HJ1.out; have := HJ6.out; have := HK3.out; omega
         case rel => exact ⟨(y370), (wrap64 (x9_3 + 1)), zS, H', ⟨by have := HJ1.out; have := HJ6.out; have := HK3.out; omega⟩, ⟨zN HO372.out⟩, ⟨zB⟩⟩
        ·simp only [Option.some.injEq, Prod.mk.injEq] at H
         obtain ⟨rfl, rfl⟩ := H
         have p365 : 0 ≤ (x9_3 : Int) := zD
         have q365 : x9_3 < (l0.length : Int) := zD
         obtain ⟨ad365, e365, hx365_0⟩ := Kd.at_string HR0.out x9_3 p365 q365
         cases e365
         replace hx365_0 := zx HB hx365_0
         replace p365 := eq_true p365
         replace q365 := eq_true q365
         go_wp2_with (first | ((with_reducible refine zq 125 ?_); refine zg (some 56) Tryz.func125 #[.string (rdOf ByteArray.empty l0 x9_3)] ?_; (with_reducible refine (spec_l4Word.calls k3 (rdOf ByteArray.empty l0 x9_3) t366 false _ A44.out).mono ?_); rintro e w50 ⟨v367, rfl, ho0, hb⟩; refine ⟨_, rfl, ?_⟩; have HO368 := zA (Kd.N_lower (Kd.N_mono (ok' := fun k_ => (w.heap.size ≤ k_) ∧ some k_ ≠ (u4 : Value).ownBlock) ho0 (fun k_ hk_ => ⟨(Nat.le_trans (below_size (zB)) hk_), (Kd.fresh' (Kd.N_lt (zN HO_4.out)) k_ hk_)⟩)) (below_size (zB))); replace HO_4 := zA (Kd.N_elder' (zN HO_4.out) (Kd.N_base ho0) hb); replace HB := zA (below_step (zB) hb); (try clear hb ho0)))
         go_ret2
         exact ⟨_, zE, zNt (Kd.N_mono HO_4.out (fun _ hk => hk.1)), zB⟩
       ·simp only [Option.some.injEq, Prod.mk.injEq] at H
        obtain ⟨rfl, rfl⟩ := H
        obtain ⟨Ao51, co51, eo51⟩ := Kd.N_slice HO_4.out
        subst eo51
        go_wp2
        go_ret2
        exact ⟨_, zE, zN HO_4.out, zB⟩
/-! ### spec_l4Trim: function 79 -/
mutual
def spec_l4Trim.j1 : Nat → ByteArray → Option (ByteArray)
 | 0, _ => none
 | k + 1, x0 => spec_l4Trim.l1 k x0
def spec_l4Trim.l1 : Nat → ByteArray → Option (ByteArray)
 | 0, _ => none
 | k + 1, x0 => if (x0.size : Int) > 0 then (if 0 ≤ (wrap64 ((x0.size : Int) - 1)) then (if (wrap64 ((x0.size : Int) - 1)) < (x0.size : Int) then (if (bt x0 (wrap64 ((x0.size : Int) - 1))) = 32 then (if (wrap64 ((x0.size : Int) - 1)) ≤ (x0.size : Int) then (spec_l4Trim.l1 k (x0.extract 0 ((wrap64 ((x0.size : Int) - 1)) : Int).toNat)) else (none)) else (some x0)) else (none)) else (none)) else (some x0)
def spec_l4Trim.l0 : Nat → ByteArray → Option (ByteArray)
 | 0, _ => none
 | k + 1, x0 => if (x0.size : Int) > 0 then (if 0 < (x0.size : Int) then (if (bt x0 0) = 32 then (if 1 ≤ (x0.size : Int) then (spec_l4Trim.l0 k (x0.extract 1 x0.size)) else (none)) else (spec_l4Trim.j1 k x0)) else (none)) else (spec_l4Trim.j1 k x0)
end
def spec_l4Trim.f (k : Nat) (a0 : ByteArray) : Option (ByteArray) := spec_l4Trim.l0 k a0
theorem spec_l4Trim.calls (k : Nat) (a0 r : ByteArray) (w : World) (h : spec_l4Trim.f k a0 = some r) :
  Calls Tryz.prog 79 #[.string a0] w fun e w' => e = .returned (.string r) ∧ Drawn0 w w' := by
 unfold spec_l4Trim.f at h
 have H := h
 clear h
 have HC2 := Aside0.mk H
 clear H
 go_enter Tryz.func79, Tryz.ntmps79
 go_upto_block 0 with (fail)
 go_cut [0] (fun v0 wc => ∃ (kq : Nat) (x0_1 : ByteArray), v0 = .string x0_1 ∧ Aside0 (spec_l4Trim.j1 kq x0_1 = some r) ∧ Aside0 (kq ≤ k) ∧ Drawn0 w wc)
 case first =>
  have H := HC2.out
  clear HC2
  have H' := Aside0.mk H
  clear H
  go_wp2
  go_loopg [0] k (fun kq v0 w' => ∃ (x0_1 : ByteArray), v0 = .string x0_1 ∧ Aside0 (spec_l4Trim.l0 kq x0_1 = some r) ∧ Aside0 (kq ≤ k) ∧ Drawn0 w w')
  case atStart => exact ⟨(a0), zS, H', ⟨Nat.le_refl _⟩, by repeat (first | exact Drawn0.refl _ | apply Drawn0.step)⟩
  case round =>
   clear H'
   try clear p2
   obtain ⟨x0_1, rfl, HA, HK1, ⟨m1, rfl⟩⟩ := hrel
   cases gk with
   | zero => exact absurd HA.out (by simp [spec_l4Trim.l0])
   | succ k1 =>
    have H := HA.out
    clear HA
    simp only [spec_l4Trim.l0] at H
    replace H := zI1 H
    rcases H with ⟨c3, H⟩ | ⟨c3, H⟩
    ·have c3b0 : decide (0 < (x0_1.size : Int)) = true := decide_eq_true c3
     have c3b1 : decide (0 < x0_1.size) = true := decide_eq_true (by omega)
     clear c3
     (first | rw [c3b0] | (simp only [i64_w, i32_w]; rw [c3b0]) | skip)
     replace H := zC0 H
     obtain ⟨c4, H⟩ := H
     have c4b0 := decide_eq_true c4
     have c4b1 : decide (0 < x0_1.size) = true := decide_eq_true (by omega)
     clear c4
     replace H := zI1 H
     rcases H with ⟨c6, H⟩ | ⟨c6, H⟩
     ·have c6b0 := beq_iff_eq.mpr c6
      have c6b1 := bne_eq_false_iff_eq.mpr c6
      clear c6
      replace H := zC0 H
      obtain ⟨c7, H⟩ := H
      have c7b0 := eq_true c7
      have c7b1 := decide_eq_true c7
      clear c7
      have H' := Aside0.mk H
      clear H
      have p5 : 0 ≤ (0 : Int) := (by omega)
      have q5 : 0 < x0_1.size := (by have : (0 : Int) < (x0_1.size : Int) := zD; omega)
      have hx5 : ∀ h : 0 < x0_1.size, ((x0_1[0]'h).toNat : Int) = bt x0_1 0 := bt_at x0_1 0
      clear p5
      have qi5 : (0 < (x0_1.size : Int)) = True := eq_true (zD)
      replace q5 := eq_true q5
      go_wp2
      go_roundg k1
      case measure => have := HK1.out; omega
      case rel => exact ⟨(x0_1.extract 1 x0_1.size), zS, H', ⟨by have := HK1.out; omega⟩, by repeat (first | exact Drawn0.refl _ | apply Drawn0.step)⟩
     ·have c6b0 := beq_eq_false_iff_ne.mpr c6
      have c6b1 := bne_iff_ne.mpr c6
      have H' := Aside0.mk H
      clear H
      have p5 : 0 ≤ (0 : Int) := (by omega)
      have q5 : 0 < x0_1.size := (by have : (0 : Int) < (x0_1.size : Int) := zD; omega)
      have hx5 : ∀ h : 0 < x0_1.size, ((x0_1[0]'h).toNat : Int) = bt x0_1 0 := bt_at x0_1 0
      clear p5
      have qi5 : (0 < (x0_1.size : Int)) = True := eq_true (zD)
      replace q5 := eq_true q5
      go_wp2
      go_meet
      case rel => exact ⟨_, (x0_1), zS, (by first | exact H' | (subst_vars; exact H')), ⟨by have := HK1.out; first | omega | exact Nat.le_refl _⟩, by repeat (first | exact Drawn0.refl _ | apply Drawn0.step)⟩
    ·have c3b0 : decide (0 < (x0_1.size : Int)) = false := decide_eq_false c3
     have c3b1 : decide (0 < x0_1.size) = false := decide_eq_false (by omega)
     clear c3
     (first | rw [c3b0] | (simp only [i64_w, i32_w]; rw [c3b0]) | skip)
     have H' := Aside0.mk H
     clear H
     go_wp2
     go_meet
     case rel => exact ⟨_, (x0_1), zS, (by first | exact H' | (subst_vars; exact H')), ⟨by have := HK1.out; first | omega | exact Nat.le_refl _⟩, by repeat (first | exact Drawn0.refl _ | apply Drawn0.step)⟩
 case rest =>
  clear HC2
  try clear p2
  try clear c3
  try clear c3b0
  try clear c3b1
  try clear c4
  try clear c4b0
  try clear c4b1
  try clear p5
  try clear q5
  try clear hx5
  try clear qi5
  try clear c6
  try clear c6b0
  try clear c6b1
  try clear c7
  try clear c7b0
  try clear c7b1
  try clear p2
  try clear p5
  try clear q5
  obtain ⟨kq, x0_1, rfl, HA, HJ1, ⟨mc1, rfl⟩⟩ := hcut
  cases kq with
  | zero => exact absurd HA.out (by simp [spec_l4Trim.j1])
  | succ kj1 =>
   have H := HA.out
   clear HA
   simp only [spec_l4Trim.j1] at H
   have H' := Aside0.mk H
   clear H
   go_wp2
   go_loopg [0] kj1 (fun kq v0 w' => ∃ (x0_2 : ByteArray), v0 = .string x0_2 ∧ Aside0 (spec_l4Trim.l1 kq x0_2 = some r) ∧ Aside0 (kq ≤ kj1) ∧ Drawn0 w w')
   case atStart => exact ⟨(x0_1), zS, H', ⟨Nat.le_refl _⟩, by repeat (first | exact Drawn0.refl _ | apply Drawn0.step)⟩
   case round =>
    clear H'
    try clear c1
    try clear p2
    try clear c3
    try clear c3b0
    try clear c3b1
    try clear c4
    try clear c4b0
    try clear c4b1
    try clear p5
    try clear q5
    try clear hx5
    try clear qi5
    try clear c6
    try clear c6b0
    try clear c6b1
    try clear c7
    try clear c7b0
    try clear c7b1
    try clear p2
    try clear p5
    try clear q5
    obtain ⟨x0_2, rfl, HA, HK2, ⟨m2, rfl⟩⟩ := hrel
    cases gk with
    | zero => exact absurd HA.out (by simp [spec_l4Trim.l1])
    | succ k2 =>
     have H := HA.out
     clear HA
     simp only [spec_l4Trim.l1] at H
     replace H := zI1 H
     rcases H with ⟨c8, H⟩ | ⟨c8, H⟩
     ·have c8b0 : decide (0 < (x0_2.size : Int)) = true := decide_eq_true c8
      have c8b1 : decide (0 < x0_2.size) = true := decide_eq_true (by omega)
      clear c8
      obtain ⟨ji9, hji9⟩ : ∃ j_ : Int, (wrap64 ((x0_2.size : Int) - 1)) = j_ := ⟨_, rfl⟩
      replace H : (if 0 ≤ (ji9) then (if (ji9) < (x0_2.size : Int) then (if (bt x0_2 (ji9)) = 32 then (if (ji9) ≤ (x0_2.size : Int) then (spec_l4Trim.l1 k2 (x0_2.extract 0 ((ji9) : Int).toNat)) else (none)) else (some x0_2)) else (none)) else (none)) = some r := by first | (rw [hji9] at H; exact H) | (simp only [hji9] at H ⊢; exact H)
      have hji9w : (IntKind.i64.wrap ((x0_2.size : Int) - 1)) = ji9 := (i64_w _).trans hji9
      replace H := zD0 H
      obtain ⟨c10b0, H⟩ := H
      replace H := zD0 H
      obtain ⟨c11b0, H⟩ := H
      replace H := zI1 H
      rcases H with ⟨c13, H⟩ | ⟨c13, H⟩
      ·have c13b0 := beq_iff_eq.mpr c13
       have c13b1 := bne_eq_false_iff_eq.mpr c13
       clear c13
       have c14b0 := eq_true (zD : 0 ≤ (ji9))
       replace H := zC0 H
       obtain ⟨c15, H⟩ := H
       have c15b0 := eq_true c15
       have c15b1 := decide_eq_true c15
       clear c15
       have H' := Aside0.mk H
       clear H
       have p12 : 0 ≤ ((ji9) : Int) := zD
       have q12 : (ji9) < (x0_2.size : Int) := zD
       have hx12 := bt_at x0_2 (ji9)
       replace p12 := eq_true p12
       replace q12 := eq_true q12
       go_wp2
       go_roundg k2
       case measure => have := HJ1.out; have := HK2.out; omega
       case rel => exact ⟨(x0_2.extract 0 ((ji9) : Int).toNat), (by first | rfl | (simp; done) | (simp only [← hji9] <;> (first | rfl | simp)) | (simp [*]; done)), H', ⟨by have := HJ1.out; have := HK2.out; omega⟩, by repeat (first | exact Drawn0.refl _ | apply Drawn0.step)⟩
      ·have c13b0 := beq_eq_false_iff_ne.mpr c13
       have c13b1 := bne_iff_ne.mpr c13
       obtain rfl := Option.some.inj H
       have p12 : 0 ≤ ((ji9) : Int) := zD
       have q12 : (ji9) < (x0_2.size : Int) := zD
       have hx12 := bt_at x0_2 (ji9)
       replace p12 := eq_true p12
       replace q12 := eq_true q12
       go_wp2
       go_ret
       exact ⟨by first | rfl | (simp; done) | (simp only [← hji9] <;> (first | rfl | simp)) | (simp [*]; done), by repeat (first | exact Drawn0.refl _ | apply Drawn0.step)⟩
     ·have c8b0 : decide (0 < (x0_2.size : Int)) = false := decide_eq_false c8
      have c8b1 : decide (0 < x0_2.size) = false := decide_eq_false (by omega)
      clear c8
      obtain rfl := Option.some.inj H
      go_wp2
      go_ret
      exact ⟨by first | rfl | (simp; done) | (simp [*]; done) | (simp; rw [Bool.eq_iff_iff]; simp; done), by repeat (first | exact Drawn0.refl _ | apply Drawn0.step)⟩
/-! ### spec_l4Good: function 80 -/
def spec_l4Good.l0 : Nat → List (S75) → Int → Option (Bool)
 | 0, _, _ => none
 | k + 1, x0, x3 => if x3 < (x0.length : Int) then (if 0 ≤ x3 then ((spec_VerOk.f k ((rd_T75 x0 x3).f1.f0) ((rd_T75 x0 x3).f1.f1) ((rd_T75 x0 x3).f1.f2) ((rd_T75 x0 x3).f1.f3)).bind fun t374 => (if t374 = true then (spec_l4Good.l0 k x0 (wrap64 (x3 + 1))) else (some false))) else (none)) else (some true)
def spec_l4Good.f (k : Nat) (l0 : List (S75)) : Option (Bool) := spec_l4Good.l0 k l0 0
theorem spec_l4Good.calls (k : Nat) (A0 : Option Addr) (c0 : Nat) (l0 : List (S75)) (r : Bool) (w : World) (hr0 : Kd.C k75 w A0 l0.length l0) (hc0 : l0.length ≤ c0) (h : spec_l4Good.f k l0 = some r) :
  Calls Tryz.prog 80 #[.slice A0 l0.length c0] w fun e w' => e = .returned (.bool r) ∧ Below w.heap.size w w' := by
 have hu32 := Tryz.underlying32
 have HR0 := Aside0.mk hr0
 have HC0 := Aside0.mk hc0
 clear hr0 hc0
 have HB := zA (Below.refl w.heap.size w)
 unfold spec_l4Good.f at h
 have H := h
 clear h
 have H' := Aside0.mk H
 clear H
 go_enter Tryz.func80, Tryz.ntmps80
 go_wp2
 go_loopg [3] k (fun kq v3 w' => ∃ (x3_1 : Int), v3 = .int .i64 x3_1 ∧ Aside0 (spec_l4Good.l0 kq l0 x3_1 = some r) ∧ Aside0 (kq ≤ k) ∧ Aside0 (Below w.heap.size w w'))
 case atStart => exact ⟨(0), zS, H', ⟨Nat.le_refl _⟩, ⟨zB⟩⟩
 case round =>
  clear H'
  obtain ⟨x3_1, rfl, HA, HK1, HB⟩ := hrel
  cases gk with
  | zero => exact absurd HA.out (by simp [spec_l4Good.l0])
  | succ k1 =>
   have H := HA.out
   clear HA
   simp only [spec_l4Good.l0] at H
   replace H := zI0 H
   rcases H with ⟨c2b0, H⟩ | ⟨c2b0, H⟩
   ·replace H := zD0 H
    obtain ⟨c3b0, H⟩ := H
    replace H := zj H
    obtain ⟨t374, A4, H⟩ := H
    try dsimp only at H
    replace H := zB0 H
    rcases H with ⟨rfl, H⟩ | ⟨rfl, H⟩
    ·have H' := Aside0.mk H
     clear H
     have p373 : 0 ≤ (x3_1 : Int) := zD
     have q373 : x3_1 < (l0.length : Int) := zD
     obtain ⟨ad373, A373_4, c373_4, e373, hx373_0, hx373_1, hx373_2, hx373_3, hx373_4, hl373_4, hi373_4⟩ := at_T75 HR0.out x3_1 p373 q373
     cases e373
     replace hx373_0 := zx HB hx373_0
     replace hx373_1 := zx HB hx373_1
     replace hx373_2 := zx HB hx373_2
     replace hx373_3 := zx HB hx373_3
     replace hx373_4 := zx HB hx373_4
     have HR373_4 := Aside0.mk hi373_4
     have HC373_4 := Aside0.mk hl373_4
     clear hi373_4 hl373_4
     replace p373 := eq_true p373
     replace q373 := eq_true q373
     go_wp2_with (first | ((with_reducible refine zq 68 ?_); refine zg (some 15) Tryz.func68 #[.agg #[.int .i64 ((rd_T75 l0 x3_1).f1.f0), .int .i64 ((rd_T75 l0 x3_1).f1.f1), .int .i64 ((rd_T75 l0 x3_1).f1.f2), .slice A373_4 ((rd_T75 l0 x3_1).f1.f3).length c373_4]] ?_; (with_reducible refine (spec_VerOk.calls k1 ((rd_T75 l0 x3_1).f1.f0) ((rd_T75 l0 x3_1).f1.f1) ((rd_T75 l0 x3_1).f1.f2) _ _ ((rd_T75 l0 x3_1).f1.f3) true _ ?side1 ?side2 A4.out).mono ?_); (case side1 => exact zC (Kd.C_below HR373_4.out HB.out)); (case side2 => exact HC373_4.out); rintro e w6 ⟨rfl, hb⟩; refine ⟨_, rfl, ?_⟩; replace HB := zA (below_step (zB) hb); (try clear hb)))
     go_roundg k1
     case measure => have := HK1.out; omega
     case rel => exact ⟨(wrap64 (x3_1 + 1)), zS, H', ⟨by have := HK1.out; omega⟩, ⟨zB⟩⟩
    ·obtain rfl := Option.some.inj H
     have p373 : 0 ≤ (x3_1 : Int) := zD
     have q373 : x3_1 < (l0.length : Int) := zD
     obtain ⟨ad373, A373_4, c373_4, e373, hx373_0, hx373_1, hx373_2, hx373_3, hx373_4, hl373_4, hi373_4⟩ := at_T75 HR0.out x3_1 p373 q373
     cases e373
     replace hx373_0 := zx HB hx373_0
     replace hx373_1 := zx HB hx373_1
     replace hx373_2 := zx HB hx373_2
     replace hx373_3 := zx HB hx373_3
     replace hx373_4 := zx HB hx373_4
     have HR373_4 := Aside0.mk hi373_4
     have HC373_4 := Aside0.mk hl373_4
     clear hi373_4 hl373_4
     replace p373 := eq_true p373
     replace q373 := eq_true q373
     go_wp2_with (first | ((with_reducible refine zq 68 ?_); refine zg (some 15) Tryz.func68 #[.agg #[.int .i64 ((rd_T75 l0 x3_1).f1.f0), .int .i64 ((rd_T75 l0 x3_1).f1.f1), .int .i64 ((rd_T75 l0 x3_1).f1.f2), .slice A373_4 ((rd_T75 l0 x3_1).f1.f3).length c373_4]] ?_; (with_reducible refine (spec_VerOk.calls k1 ((rd_T75 l0 x3_1).f1.f0) ((rd_T75 l0 x3_1).f1.f1) ((rd_T75 l0 x3_1).f1.f2) _ _ ((rd_T75 l0 x3_1).f1.f3) false _ ?side1 ?side2 A4.out).mono ?_); (case side1 => exact zC (Kd.C_below HR373_4.out HB.out)); (case side2 => exact HC373_4.out); rintro e w7 ⟨rfl, hb⟩; refine ⟨_, rfl, ?_⟩; replace HB := zA (below_step (zB) hb); (try clear hb)))
     go_ret
     exact ⟨zE, zB⟩
   ·obtain rfl := Option.some.inj H
    go_wp2
    go_ret
    exact ⟨zE, zB⟩
end Go.Proofs.YtpcdhoeoefoeoaaGreatDoor.PGA
