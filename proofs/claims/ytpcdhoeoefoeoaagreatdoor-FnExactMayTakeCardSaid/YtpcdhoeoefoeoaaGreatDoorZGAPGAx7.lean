/- The walks of the functions that these laws reach, and what each comes to: printed by this session's program. -/
import Derived.Test.YtpcdhoeoefoeoaaGreatDoorZGAPGAx0
import Derived.Test.YtpcdhoeoefoeoaaGreatDoorZGAPGAx4
import Derived.Test.YtpcdhoeoefoeoaaGreatDoorZGAPGAx6
import Derived.Test.YtpcdhoeoefoeoaaGreatDoorZGASays
import Derived.Test.YtpcdhoeoefoeoaaGreatDoorZGARegN
import Derived.Test.YtpcdhoeoefoeoaaGreatDoorZGARegs
namespace Go.Proofs.YtpcdhoeoefoeoaaGreatDoor.PGA
open Go.RowKit YtpcdhoeoefoeoaaGreatDoorW.PrintWords YtpcdhoeoefoeoaaGreatDoorW.PrintLast YtpcdhoeoefoeoaaGreatDoorW.PrintMore
attribute [local go_sem high] Mine.str_gtr Mine.str_leq Mine.str_geq
attribute [local go_sem] max2_int min2_int max_two min_two max_three min_three max_four min_four   -- for this text's walks alone
set_option linter.unusedVariables false
set_option maxHeartbeats 8000000
set_option maxRecDepth 100000
set_option linter.unusedSimpArgs false
/-! ### spec_l4Word: function 125 -/
mutual
def spec_l4Word.j0 : Nat → ByteArray → Option ((List (S75)) × Bool)
 | 0, _ => none
 | k + 1, x0 => spec_l4Word.l0 k x0 (([(⟨#[94]⟩ : ByteArray), (⟨#[126]⟩ : ByteArray), (⟨#[62, 61]⟩ : ByteArray), (⟨#[62]⟩ : ByteArray), (⟨#[60, 61]⟩ : ByteArray), (⟨#[60]⟩ : ByteArray), (⟨#[61]⟩ : ByteArray), (⟨#[]⟩ : ByteArray)] : List ByteArray)) 0
def spec_l4Word.l0 : Nat → ByteArray → List ByteArray → Int → Option ((List (S75)) × Bool)
 | 0, _, _, _ => none
 | k + 1, x0, x4, x5 => if x5 < (x4.length : Int) then (spec_l4Word.j2 k x0 x4 x5) else (some ((([] : List (S75))), false))
def spec_l4Word.j2 : Nat → ByteArray → List ByteArray → Int → Option ((List (S75)) × Bool)
 | 0, _, _, _ => none
 | k + 1, x0, x4, x5 => if 0 ≤ x5 then (if x5 < (x4.length : Int) then (if (x0.size : Int) ≥ ((rdOf ByteArray.empty x4 x5).size : Int) then (if 0 ≤ ((rdOf ByteArray.empty x4 x5).size : Int) then (if ((rdOf ByteArray.empty x4 x5).size : Int) ≤ (x0.size : Int) then (spec_l4Word.j3 k x0 x4 x5 ((rdOf ByteArray.empty x4 x5).size : Int) ((x0.extract 0 (((rdOf ByteArray.empty x4 x5).size : Int) : Int).toNat).toList == (rdOf ByteArray.empty x4 x5).toList)) else (none)) else (none)) else (spec_l4Word.j3 k x0 x4 x5 ((rdOf ByteArray.empty x4 x5).size : Int) false)) else (none)) else (none)
def spec_l4Word.j3 : Nat → ByteArray → List ByteArray → Int → Int → Bool → Option ((List (S75)) × Bool)
 | 0, _, _, _, _, _ => none
 | k + 1, x0, x4, x5, x6, x37 => if x37 = true then (if 0 ≤ x6 then (if x6 ≤ (x0.size : Int) then ((spec_l4Read.f k (x0.extract (x6 : Int).toNat x0.size)).bind fun bt324 => (if bt324.2.2.2.2.2 = true then (if 0 ≤ x5 then (if x5 < (x4.length : Int) then ((spec_l4Make.f k (rdOf ByteArray.empty x4 x5) bt324.1 bt324.2.1 bt324.2.2.1 bt324.2.2.2.1 bt324.2.2.2.2.1 bt324.2.2.2.2.2).bind fun t334 => (some (t334, true))) else (none)) else (none)) else (some ((([] : List (S75))), false)))) else (none)) else (none)) else (spec_l4Word.l0 k x0 x4 (wrap64 (x5 + 1)))
end
def spec_l4Word.f (k : Nat) (a0 : ByteArray) : Option ((List (S75)) × Bool) := if a0.toList = ([42] : List UInt8) then (some ((([(⟨4, (⟨0, 0, 0, ([] : List ByteArray)⟩ : S32)⟩ : S75)] : List (S75))), true)) else (spec_l4Word.j0 k a0)
def spec_l4Word.T8 : Bool × List (List Nat × List Nat) := (true, [([], []), ([0], [0]), ([], []), ([1, 2], [1, 2]), ([3], [3]), ([4], [4]), ([4], [4]), ([5, 6, 4], [4, 5, 6]), ([4], [4]), ([4], [4]), ([8, 9, 4], [4, 8, 9]), ([10, 4], [4, 10]), ([7, 11, 4], [4, 7, 11]), ([4, 12], [4, 12])])
def spec_l4Word.B8 : List Nat := [0, 1, 0, 7, 15, 31, 31, 127, 31, 31, 799, 1823, 4095, 8191]
theorem spec_l4Word.tab8 : rtab .any (opsOf Tryz.f125 8) = spec_l4Word.T8 := by kernel_rfl
theorem spec_l4Word.bits8 : waitsOk spec_l4Word.T8.2 spec_l4Word.B8 = true := by kernel_rfl
def spec_l4Word.T12 : Bool × List (List Nat × List Nat) := (true, [([], []), ([], []), ([0, 1], [0, 1]), ([2], [2]), ([], []), ([3, 4], [3, 4]), ([5, 5, 0, 1, 2, 3, 4, 5], [5]), ([6, 0, 1, 2, 3, 4, 5, 6], [])])
def spec_l4Word.B12 : List Nat := [0, 0, 3, 7, 0, 31, 63, 127]
theorem spec_l4Word.tab12 : rtab .any (opsOf Tryz.f125 12) = spec_l4Word.T12 := by kernel_rfl
theorem spec_l4Word.bits12 : waitsOk spec_l4Word.T12.2 spec_l4Word.B12 = true := by kernel_rfl
theorem spec_l4Word.calls (k : Nat) (a0 : ByteArray) (r1 : List (S75)) (r2 : Bool) (w : World) (h : spec_l4Word.f k a0 = some (r1, r2)) :
  Calls Tryz.prog 125 #[.string a0] w fun e w' => ∃ v0_ : Value, e = .returned (.tuple #[v0_, .bool r2]) ∧ Kd.N k75 75 w' w.heap.size (fun k_ => (w.heap.size ≤ k_)) v0_ r1 ∧ Below w.heap.size w w' := by
 have hu75 := Tryz.underlying75
 have hu169 := Tryz.underlying169
 have HB := zA (Below.refl w.heap.size w)
 unfold spec_l4Word.f at h
 have H := h
 clear h
 have HC2 := Aside0.mk H
 clear H
 go_enter Tryz.func125, Tryz.ntmps125
 go_upto_if 9 with (fail)
 go_cut [] (fun wc => ∃ (kq : Nat), Aside0 (spec_l4Word.j0 kq a0 = some (r1, r2)) ∧ Aside0 (kq ≤ k) ∧ Aside0 (Below w.heap.size w wc))
 case first =>
  have H := HC2.out
  clear HC2
  replace H := zI1 H
  rcases H with ⟨c3, H⟩ | ⟨c3, H⟩
  ·have c3b0 := beq_iff_eq.mpr c3
   have c3b1 := bne_eq_false_iff_eq.mpr c3
   clear c3
   (first | rw [c3b0] | (simp only [i64_w, i32_w]; rw [c3b0]) | skip)
   obtain ⟨y313, hy313⟩ : ∃ y_ : List (S75), y_ = (([(⟨4, (⟨0, 0, 0, ([] : List ByteArray)⟩ : S32)⟩ : S75)] : List (S75))) := ⟨_, rfl⟩
   replace H : (some (y313, true)) = some (r1, r2) := zY hy313 H
   have Ny313 := Aside0.mk hy313
   clear hy313
   simp only [Option.some.injEq, Prod.mk.injEq] at H
   obtain ⟨rfl, rfl⟩ := H
   go_wp2_with (first | ((with_reducible refine gate_dst (N := 11) rfl ?_); refine Kd.N_lit k75 _ 75 ?hg (N' := 11) ?hd (xs := ([(⟨4, (⟨0, 0, 0, ([] : List ByteArray)⟩ : S32)⟩ : S75)] : List (S75))) (inner := [.int .i64 4, .int .i64 0, .int .i64 0, .int .i64 0, .slice none 0 0]) (ok := (fun k_ => (w.heap.size ≤ k_))) ?hr ?hp (fun _ hk => hk) ((show ∀ k_, w.heap.size ≤ k_ → (fun k_ => (w.heap.size ≤ k_)) k_ from fun k_ hk => (Nat.le_trans (below_size (zB)) hk)) _ (Nat.le_refl _)) (Below.refl _ _) (Nat.le_refl _) (by simp) ?_; (case hd => rfl); (case hg => rfl); (case hr => first | (go_simp; done) | (go_simp; rfl)); (case hp => exact (Reps.c5 (show Kd.FK k75 _ _ (⟨4, (⟨0, 0, 0, ([] : List ByteArray)⟩ : S32)⟩ : S75) [.int .i64 4, .int .i64 0, .int .i64 0, .int .i64 0, .slice none 0 0] from (k75_mkF _ _ (⟨4, (⟨0, 0, 0, ([] : List ByteArray)⟩ : S32)⟩ : S75) (Nat.le_refl _) (Kd.F_nil _ _ _))) (Reps.none _ _))); intro v314 w4 ho5 hb hg_ hnew_; clear hg_ hnew_; (first | rw [← Ny313.out] at ho5 | (simp only [Int.reduceToNat] at ho5; rw [← Ny313.out] at ho5)); have HO315 := zA (Kd.N_lower ho5 (below_size (zB))); replace HB := zA (below_step (zB) hb); clear hb ho5))
   go_ret2
   exact ⟨_, zE, zN HO315.out, zB⟩
  ·have c3b0 := beq_eq_false_iff_ne.mpr c3
   have c3b1 := bne_iff_ne.mpr c3
   (first | rw [c3b0] | (simp only [i64_w, i32_w]; rw [c3b0]) | skip)
   have H' := Aside0.mk H
   clear H
   go_wp2
   go_meet
   case rel => exact ⟨_, (by first | exact H' | (subst_vars; exact H')), ⟨by first | omega | exact Nat.le_refl _⟩, ⟨zB⟩⟩
 case rest =>
  clear HC2
  try clear c1
  try clear p2
  try clear c3
  try clear c3b0
  try clear c3b1
  try clear c5
  obtain ⟨kq, HA, HJ1, HB⟩ := hcut
  cases kq with
  | zero => exact absurd HA.out (by simp [spec_l4Word.j0])
  | succ kj1 =>
   have H := HA.out
   clear HA
   simp only [spec_l4Word.j0] at H
   obtain ⟨y316, hy316⟩ : ∃ y_ : List ByteArray, y_ = (([(⟨#[94]⟩ : ByteArray), (⟨#[126]⟩ : ByteArray), (⟨#[62, 61]⟩ : ByteArray), (⟨#[62]⟩ : ByteArray), (⟨#[60, 61]⟩ : ByteArray), (⟨#[60]⟩ : ByteArray), (⟨#[61]⟩ : ByteArray), (⟨#[]⟩ : ByteArray)] : List ByteArray)) := ⟨_, rfl⟩
   replace H : (spec_l4Word.l0 kj1 a0 y316 0) = some (r1, r2) := zY hy316 H
   have Ny316 := Aside0.mk hy316
   clear hy316
   have H' := Aside0.mk H
   clear H
   go_wp2_with (first | ((with_reducible refine gate_dst (N := 12) rfl ?_); refine Kd.R_lit Kd.string _ 9 ?hg (N := 12) ?hd (xs := ([(⟨#[94]⟩ : ByteArray), (⟨#[126]⟩ : ByteArray), (⟨#[62, 61]⟩ : ByteArray), (⟨#[62]⟩ : ByteArray), (⟨#[60, 61]⟩ : ByteArray), (⟨#[60]⟩ : ByteArray), (⟨#[61]⟩ : ByteArray), (⟨#[]⟩ : ByteArray)] : List ByteArray)) (inner := [.string (⟨#[94]⟩ : ByteArray), .string (⟨#[126]⟩ : ByteArray), .string (⟨#[62, 61]⟩ : ByteArray), .string (⟨#[62]⟩ : ByteArray), .string (⟨#[60, 61]⟩ : ByteArray), .string (⟨#[60]⟩ : ByteArray), .string (⟨#[61]⟩ : ByteArray), .string (⟨#[]⟩ : ByteArray)]) (ok := fun _ => True) ?hr ?hp (fun _ hk => hk) trivial (Below.refl _ _) (Nat.le_refl _) (by simp) ?_; (case hd => rfl); (case hg => rfl); (case hr => first | (go_simp; done) | (go_simp; rfl)); (case hp => exact (Reps.one (show Kd.M Kd.string _ _ _ (⟨#[94]⟩ : ByteArray) [.string (⟨#[94]⟩ : ByteArray)] from rfl) (Reps.one (show Kd.M Kd.string _ _ _ (⟨#[126]⟩ : ByteArray) [.string (⟨#[126]⟩ : ByteArray)] from rfl) (Reps.one (show Kd.M Kd.string _ _ _ (⟨#[62, 61]⟩ : ByteArray) [.string (⟨#[62, 61]⟩ : ByteArray)] from rfl) (Reps.one (show Kd.M Kd.string _ _ _ (⟨#[62]⟩ : ByteArray) [.string (⟨#[62]⟩ : ByteArray)] from rfl) (Reps.one (show Kd.M Kd.string _ _ _ (⟨#[60, 61]⟩ : ByteArray) [.string (⟨#[60, 61]⟩ : ByteArray)] from rfl) (Reps.one (show Kd.M Kd.string _ _ _ (⟨#[60]⟩ : ByteArray) [.string (⟨#[60]⟩ : ByteArray)] from rfl) (Reps.one (show Kd.M Kd.string _ _ _ (⟨#[61]⟩ : ByteArray) [.string (⟨#[61]⟩ : ByteArray)] from rfl) (Reps.one (show Kd.M Kd.string _ _ _ (⟨#[]⟩ : ByteArray) [.string (⟨#[]⟩ : ByteArray)] from rfl) (Reps.none _ _)))))))))); intro v317 w6 ho7 hb hg_ hnew_; clear hg_ hnew_; (first | rw [← Ny316.out] at ho7 | (simp only [Int.reduceToNat] at ho7; rw [← Ny316.out] at ho7)); have HO318 := zA (Kd.R_lower (Kd.R_newM (M := fun k_ => (w.heap.size ≤ k_)) ho7 (below_size (zB)) (fun k_ h_ => h_)) (below_size (zB))); replace HB := zA (below_step (zB) hb); clear hb ho7))
   go_loopg [5] kj1 (fun kq v5 w' => ∃ (x5_2 : Int), v5 = .int .i64 x5_2 ∧ Aside0 (spec_l4Word.l0 kq a0 y316 x5_2 = some (r1, r2)) ∧ Aside0 (kq ≤ kj1) ∧ Aside0 (Kd.R Kd.string 9 w' w.heap.size (fun k_ => (w.heap.size ≤ k_)) v317 y316) ∧ Aside0 (Below w.heap.size w w'))
   case atStart => exact ⟨(0), zS, H', ⟨Nat.le_refl _⟩, ⟨zR (Kd.R_mono HO318.out (fun _ hk => hk.1))⟩, ⟨zB⟩⟩
   case round =>
    clear H'
    try clear c1
    try clear p2
    try clear c3
    try clear c3b0
    try clear c3b1
    try clear c5
    try clear p2
    obtain ⟨x5_2, rfl, HA, HK2, HO_4, HB⟩ := hrel
    cases gk with
    | zero => exact absurd HA.out (by simp [spec_l4Word.l0])
    | succ k2 =>
     have H := HA.out
     clear HA
     simp only [spec_l4Word.l0] at H
     have HC8 := Aside0.mk H
     clear H
     obtain ⟨Ao9, co9, eo9⟩ := Kd.R_slice HO_4.out
     subst eo9
     go_upto_if 16 with (fail)
     go_cut [] (fun wc => ∃ (kq : Nat), Aside0 (spec_l4Word.j2 kq a0 y316 x5_2 = some (r1, r2)) ∧ Aside0 (kq ≤ k2) ∧ Aside0 (Kd.R Kd.string 9 wc w.heap.size (fun k_ => (w.heap.size ≤ k_)) (.slice Ao9 y316.length co9) y316) ∧ Aside0 (Below w.heap.size w wc))
     case first =>
      have H := HC8.out
      clear HC8
      replace H := zI0 H
      rcases H with ⟨c10b0, H⟩ | ⟨c10b0, H⟩
      ·(first | rw [c10b0] | (simp only [i64_w, i32_w]; rw [c10b0]) | skip)
       have H' := Aside0.mk H
       clear H
       go_wp2
       go_meet
       case rel => exact ⟨_, (by first | exact H' | (subst_vars; exact H')), ⟨by have := HJ1.out; have := HK2.out; first | omega | exact Nat.le_refl _⟩, ⟨zR HO_4.out⟩, ⟨zB⟩⟩
      ·(first | rw [c10b0] | (simp only [i64_w, i32_w]; rw [c10b0]) | skip)
       obtain ⟨y319, hy319⟩ : ∃ y_ : List (S75), y_ = (([] : List (S75))) := ⟨_, rfl⟩
       replace H : (some (y319, false)) = some (r1, r2) := zY hy319 H
       have Ny319 := Aside0.mk hy319
       clear hy319
       simp only [Option.some.injEq, Prod.mk.injEq] at H
       obtain ⟨rfl, rfl⟩ := H
       go_wp2_with (first | ((with_reducible refine gate_dst (N := 52) rfl ?_); refine Kd.N_lit k75 _ 75 ?hg (N' := 52) ?hd (xs := ([] : List (S75))) (inner := []) (ok := (fun k_ => (w.heap.size ≤ k_) ∧ some k_ ≠ (.slice Ao9 y316.length co9 : Value).ownBlock)) ?hr ?hp (fun _ hk => hk) ((show ∀ k_, wr.heap.size ≤ k_ → (fun k_ => (w.heap.size ≤ k_) ∧ some k_ ≠ (.slice Ao9 y316.length co9 : Value).ownBlock) k_ from fun k_ hk => ⟨(Nat.le_trans (below_size (zB)) hk), Kd.fresh' (Kd.R_lt (zR HO_4.out)) k_ hk⟩) _ (Nat.le_refl _)) (Below.refl _ _) (Nat.le_refl _) (by simp) ?_; (case hd => rfl); (case hg => rfl); (case hr => first | (go_simp; done) | (go_simp; rfl)); (case hp => exact (Reps.none _ _)); intro v320 w11 ho12 hb hg_ hnew_; clear hg_ hnew_; (first | rw [← Ny319.out] at ho12 | (simp only [Int.reduceToNat] at ho12; rw [← Ny319.out] at ho12)); replace HO_4 := zr HO_4 hb; have HO321 := zA (Kd.N_lower ho12 (below_size (zB))); replace HB := zA (below_step (zB) hb); clear hb ho12))
       go_ret2
       exact ⟨_, zE, zNt (Kd.N_mono HO321.out (fun _ hk => hk.1)), zB⟩
     case rest =>
      clear HC8
      try clear c1
      try clear p2
      try clear c3
      try clear c3b0
      try clear c3b1
      try clear c5
      try clear c10
      try clear c10b0
      try clear c12
      try clear p2
      obtain ⟨kq, HA, HJ7, HO_4, HB⟩ := hcut
      cases kq with
      | zero => exact absurd HA.out (by simp [spec_l4Word.j2])
      | succ kj7 =>
       have H := HA.out
       clear HA
       simp only [spec_l4Word.j2] at H
       replace H := zD0 H
       obtain ⟨c13b0, H⟩ := H
       replace H := zD0 H
       obtain ⟨c14b0, H⟩ := H
       have HC15 := Aside0.mk H
       clear H
       have p322 : 0 ≤ (x5_2 : Int) := zD
       have q322 : x5_2 < (y316.length : Int) := zD
       obtain ⟨ad322, e322, hx322_0⟩ := Kd.at_string (Kd.R_reads' HO_4.out).2.2 x5_2 p322 q322
       cases e322
       replace p322 := eq_true p322
       replace q322 := eq_true q322
       go_upto_region 8 with (fail)
       go_cut [37] (fun v37 wc => ∃ (kq : Nat) (x37_14 : Bool), v37 = .bool x37_14 ∧ Aside0 (spec_l4Word.j3 kq a0 y316 x5_2 ((rdOf ByteArray.empty y316 x5_2).size : Int) x37_14 = some (r1, r2)) ∧ Aside0 (kq ≤ kj7) ∧ Aside0 (Kd.R Kd.string 9 wc w.heap.size (fun k_ => (w.heap.size ≤ k_)) (.slice (some ad322) y316.length co9) y316) ∧ Aside0 (Below w.heap.size w wc))
       case first =>
        have H := HC15.out
        clear HC15
        replace H := zI1 H
        rcases H with ⟨c16, H⟩ | ⟨c16, H⟩
        ·have c16b0 : decide (((rdOf ByteArray.empty y316 x5_2).size : Int) ≤ (a0.size : Int)) = true := decide_eq_true c16
         have c16b1 : decide ((rdOf ByteArray.empty y316 x5_2).size ≤ a0.size) = true := decide_eq_true (Int.ofNat_le.mp c16)
         clear c16
         (first | rw [c16b0] | (simp only [i64_w, i32_w]; rw [c16b0]) | skip)
         replace H := zC0 H
         obtain ⟨c17, H⟩ := H
         have c17b0 := eq_true c17
         have c17b1 := decide_eq_true c17
         clear c17
         replace H := zC0 H
         obtain ⟨c18, H⟩ := H
         have c18b0 := eq_true c18
         have c18b1 := decide_eq_true c18
         clear c18
         have H' := Aside0.mk H
         clear H
         try go_wp2
         replace HO_4 := zA (Kd.R_drew HO_4.out)
         replace HB := zA (below_drew1 HB.out)
         have p323 : 0 ≤ (x5_2 : Int) := zD
         have q323 : x5_2 < (y316.length : Int) := zD
         obtain ⟨ad323, e323, hx323_0⟩ := Kd.at_string (Kd.R_reads' HO_4.out).2.2 x5_2 p323 q323
         obtain rfl : ad322 = ad323 := (by injection e323)
         replace p323 := eq_true p323
         replace q323 := eq_true q323
         refine start_ (n := 14) (S := fun w' => w'.cell? (ad322.add (x5_2).toNat) = some (.string (rdOf ByteArray.empty y316 x5_2))) (ds := []) (Array.replicate 14 false) (by kernel_rfl) rfl rfl (hx323_0) (fun hHeld => ?_); refine with_tabW spec_l4Word.tab8 spec_l4Word.bits8 (fun HT_ HW_ => ?_)
         generalize wc.drew = w19 at HO_4 HB hx323_0 hHeld ⊢
         refine zp 0 24 ?_
         refine zp 1 25 ?_
         refine zp 2 26 ?_
         refine zp 3 27 ?_
         refine zp 4 28 ?_
         refine zp 5 29 ?_
         refine zp 6 30 ?_
         refine zp 7 31 ?_
         refine zp 8 32 ?_
         refine zp 9 33 ?_
         refine zp 10 34 ?_
         refine take_ (i := 11) (N := some 35) (v := ?_) (a' := ?_) #[true, true, true, true, true, true, true, true, true, true, true, true, false, false] rfl rfl (take_ofW HT_.out HW_.out (by kernel_rfl)) (fun _ _ _ h => h) (Or.inl ⟨by rfl, ?_⟩) hHeld ?_ ?_
         rotate_left
         ·intro w' s0
          go_simp
          with_reducible rfl
         rotate_left
         ·simp only [Act.put, zT, i64_w, i32_w]
          rfl
         refine zp 12 36 ?_
         refine zp 13 37 ?_
         refine done_ (done_of HT_.out (by kernel_rfl)) ?_
         try go_wp2
         go_meet
         case rel => exact ⟨_, (((a0.extract 0 (((rdOf ByteArray.empty y316 x5_2).size : Int) : Int).toNat).toList == (rdOf ByteArray.empty y316 x5_2).toList)), zS, (by first | exact H' | (subst_vars; exact H')), ⟨by have := HJ1.out; have := HK2.out; have := HJ7.out; first | omega | exact Nat.le_refl _⟩, ⟨zR HO_4.out⟩, ⟨zB⟩⟩
        ·have c16b0 : decide (((rdOf ByteArray.empty y316 x5_2).size : Int) ≤ (a0.size : Int)) = false := decide_eq_false c16
         have c16b1 : decide ((rdOf ByteArray.empty y316 x5_2).size ≤ a0.size) = false := decide_eq_false (fun h => c16 (Int.ofNat_le.mpr h))
         clear c16
         (first | rw [c16b0] | (simp only [i64_w, i32_w]; rw [c16b0]) | skip)
         have H' := Aside0.mk H
         clear H
         try go_wp2
         replace HO_4 := zA (Kd.R_drew HO_4.out)
         replace HB := zA (below_drew1 HB.out)
         refine start_ (n := 14) (S := fun w' => True) (ds := []) (Array.replicate 14 false) (by kernel_rfl) rfl rfl trivial (fun hHeld => ?_); refine with_tabW spec_l4Word.tab8 spec_l4Word.bits8 (fun HT_ HW_ => ?_)
         generalize wc.drew = w20 at HO_4 HB hHeld ⊢
         refine zp 0 24 ?_
         refine zp 1 25 ?_
         refine zp 2 26 ?_
         refine zp 3 27 ?_
         refine zp 4 28 ?_
         refine zu 5 29 ?_
         refine zu 6 30 ?_
         refine zu 7 31 ?_
         refine zu 8 32 ?_
         refine zu 9 33 ?_
         refine zu 10 34 ?_
         refine zu 11 35 ?_
         refine zu 12 36 ?_
         refine zp 13 37 ?_
         refine done_ (done_of HT_.out (by kernel_rfl)) ?_
         try go_wp2
         go_meet
         case rel => exact ⟨_, (false), zS, (by first | exact H' | (subst_vars; exact H')), ⟨by have := HJ1.out; have := HK2.out; have := HJ7.out; first | omega | exact Nat.le_refl _⟩, ⟨zR HO_4.out⟩, ⟨zB⟩⟩
       case rest =>
        clear HC15
        try clear c1
        try clear p2
        try clear c3
        try clear c3b0
        try clear c3b1
        try clear p3
        try clear q3
        try clear hx3
        try clear c5
        try clear c10
        try clear c10b0
        try clear c12
        try clear c13
        try clear c13b0
        try clear c14
        try clear c14b0
        try clear c16
        try clear c16b0
        try clear c16b1
        try clear c17
        try clear c17b0
        try clear c17b1
        try clear c18
        try clear c18b0
        try clear c18b1
        try clear hx322_0
        try clear hx323_0
        try clear p2
        try clear p322
        try clear p323
        try clear q322
        try clear q323
        obtain ⟨kq, x37_14, rfl, HA, HJ14, HO_4, HB⟩ := hcut
        cases kq with
        | zero => exact absurd HA.out (by simp [spec_l4Word.j3])
        | succ kj14 =>
         have H := HA.out
         clear HA
         simp only [spec_l4Word.j3] at H
         replace H := zB0 H
         rcases H with ⟨rfl, H⟩ | ⟨rfl, H⟩
         ·replace H := zC0 H
          obtain ⟨c22, H⟩ := H
          have c22b0 := eq_true c22
          have c22b1 := decide_eq_true c22
          clear c22
          replace H := zC0 H
          obtain ⟨c23, H⟩ := H
          have c23b0 := eq_true c23
          have c23b1 := decide_eq_true c23
          clear c23
          replace H := zj H
          obtain ⟨⟨t324, t325, t326, t327, t330, t331⟩, A24, H⟩ := H
          try dsimp only at H
          replace H := zB0 H
          rcases H with ⟨rfl, H⟩ | ⟨rfl, H⟩
          ·replace H := zD0 H
           obtain ⟨c26b0, H⟩ := H
           replace H := zD0 H
           obtain ⟨c27b0, H⟩ := H
           replace H := zj H
           obtain ⟨t334, A28, H⟩ := H
           try dsimp only at H
           simp only [Option.some.injEq, Prod.mk.injEq] at H
           obtain ⟨rfl, rfl⟩ := H
           try go_wp2_with (first | ((with_reducible refine zq 153 ?_); refine zg (some 41) Tryz.func153 #[.string (a0.extract (((rdOf ByteArray.empty y316 x5_2).size : Int) : Int).toNat a0.size)] ?_; (with_reducible refine (spec_l4Read.calls kj14 (a0.extract (((rdOf ByteArray.empty y316 x5_2).size : Int) : Int).toNat a0.size) t324 t325 t326 t327 t330 true _ A24.out).mono ?_); rintro e w29 ⟨v328, rfl, ho0, hb⟩; refine ⟨_, rfl, ?_⟩; have HO329 := zA (Kd.R_lower (Kd.R_new' (Kd.R_newM (M := fun k_ => (w.heap.size ≤ k_)) ho0 (below_size (zB)) (fun k_ h_ => h_)) (Kd.R_lt (zR HO_4.out))) (below_size (zB))); replace HO_4 := zA (Kd.R_elder' (zR HO_4.out) (Kd.R_base ho0) hb); replace HB := zA (below_step (zB) hb); (try clear hb ho0)) | ((with_reducible refine zd 7 ?_); refine ze 7 169 #[.int .i64 0, .int .i64 0, .int .i64 0, .slice none 0 0, .int .i64 0, .bool false] ?_; intro gb332 hg w30 hbox hb; replace HO_4 := zr HO_4 hb; replace HO329 := zr HO329 hb; have BK332 := zA (hbox); have GW332 := zi HB hg; have GE332 := zi HB hg; replace HB := zA (below_step (zB) hb); clear hb hbox hg; obtain ⟨hcz31_0, hcz31_1, hcz31_2, hcz31_3, hcz31_4, hcz31_5, hfz31_0, hfz31_1, hfz31_2, hfz31_3, hfz31_4, hfz31_5⟩ := ze6 BK332.out; obtain ⟨Ao32, co32, eo32⟩ := Kd.R_slice HO329.out; subst eo32))
           generalize hW_ : ((((((w30.setCell ⟨gb332, 0, none⟩ (.int .i64 t324)).setCell ⟨gb332, 1, none⟩ (.int .i64 t325)).setCell ⟨gb332, 2, none⟩ (.int .i64 t326)).setCell ⟨gb332, 3, none⟩ (.slice Ao32 t327.length co32)).setCell ⟨gb332, 4, none⟩ (.int .i64 t330)).setCell ⟨gb332, 5, none⟩ (.bool true)) = w33
           have n0_ : Aside0 (Kd.R Kd.string 9 w33 w.heap.size (fun k_ => (w.heap.size ≤ k_) ∧ some k_ ≠ (.slice Ao32 t327.length co32 : Value).ownBlock) (.slice (some ad322) y316.length co9) y316) := ⟨by subst hW_; (with_reducible repeat (first | apply Kd.R_alloc | apply Kd.R_drewN | apply Kd.R_drew)); exact Kd.R_mono (zr6 HO_4.out BK332.out) (fun _ hk => ⟨hk.1, hk.2⟩)⟩
           have n1_ : Aside0 (Kd.R Kd.string 9 w33 w.heap.size (fun k_ => (w.heap.size ≤ k_) ∧ some k_ ≠ (.slice (some ad322) y316.length co9 : Value).ownBlock) (.slice Ao32 t327.length co32) t327) := ⟨by subst hW_; (with_reducible repeat (first | apply Kd.R_alloc | apply Kd.R_drewN | apply Kd.R_drew)); exact Kd.R_mono (zr6 HO329.out BK332.out) (fun _ hk => ⟨hk.1.1, hk.2⟩)⟩
           have n2_ := zA (zh1 hW_.symm (zk6 BK332.out))
           have n3_ := zA (zh2 hW_.symm (zW HB.out))
           clear HO_4
           clear HO329
           clear BK332
           clear HB
           clear hW_
           have HO_4 := n0_
           have HO329 := n1_
           have BK332 := n2_
           have HB := n3_
           clear n0_ n1_ n2_ n3_
           replace HO_4 := zA (Kd.R_drew HO_4.out)
           replace HO329 := zA (Kd.R_drew HO329.out)
           replace BK332 := zA (blk_drew BK332.out)
           replace HB := zA (below_drew1 HB.out)
           have p333 : 0 ≤ (x5_2 : Int) := zD
           have q333 : x5_2 < (y316.length : Int) := zD
           obtain ⟨ad333, e333, hx333_0⟩ := Kd.at_string (Kd.R_reads' HO_4.out).2.2 x5_2 p333 q333
           obtain rfl : ad322 = ad333 := (by injection e333)
           replace p333 := eq_true p333
           replace q333 := eq_true q333
           refine start_ (n := 8) (S := fun w' => w'.cell? ⟨gb332, 0, none⟩ = some (.int .i64 t324) ∧ w'.cell? ⟨gb332, 1, none⟩ = some (.int .i64 t325) ∧ w'.cell? ⟨gb332, 2, none⟩ = some (.int .i64 t326) ∧ w'.cell? ⟨gb332, 3, none⟩ = some (.slice Ao32 t327.length co32) ∧ w'.cell? ⟨gb332, 4, none⟩ = some (.int .i64 t330) ∧ w'.cell? ⟨gb332, 5, none⟩ = some (.bool true) ∧ w'.cell? (ad322.add (x5_2).toNat) = some (.string (rdOf ByteArray.empty y316 x5_2))) (ds := []) (Array.replicate 8 false) (by kernel_rfl) rfl rfl ⟨(blk_cell BK332.out 0).trans rfl, (blk_cell BK332.out 1).trans rfl, (blk_cell BK332.out 2).trans rfl, (blk_cell BK332.out 3).trans rfl, (blk_cell BK332.out 4).trans rfl, (blk_cell BK332.out 5).trans rfl, hx333_0⟩ (fun hHeld => ?_); refine with_tabW spec_l4Word.tab12 spec_l4Word.bits12 (fun HT_ HW_ => ?_)
           generalize w33.drew = w34 at HO_4 HO329 BK332 HB hx333_0 hHeld ⊢
           refine zp 0 46 ?_
           refine zp 1 47 ?_
           refine zp 2 48 ?_
           refine zt 3 49 ?_
           refine zt 4 50 ?_
           refine zo 5 (some 51) fun K hK => ?_
           refine goes_ Tryz.func154 (by kernel_rfl) rfl #[.string (rdOf ByteArray.empty y316 x5_2), .agg #[.int .i64 t324, .int .i64 t325, .int .i64 t326, .slice Ao32 t327.length co32, .int .i64 t330, .bool true]] (by rfl) rfl rfl zM ?_
           with_reducible refine (spec_l4Make.calls kj14 (rdOf ByteArray.empty y316 x5_2) t324 t325 t326 (fun k_ => some k_ = (.slice Ao32 t327.length co32 : Value).ownBlock) _ _ t327 t330 true t334 _ ?side1 A28.out).mono ?_
           (case side1 => exact Kd.R_V (Kd.R_tight rfl (Kd.R_types (HO329.out) BK332.out (by decide))))
           rintro e w35 ⟨v335, rfl, ho0, hb⟩
           have HS6_ := (hb.cell (World.block_lt_of_cell? _ _ (hHeld.2.2.2.2.2.2))).trans (hHeld.2.2.2.2.2.2)
           refine ⟨_, rfl, ?_⟩
           have HO336 := zA (Kd.N_lower (Kd.N_mono (ok' := fun k_ => (w.heap.size ≤ k_) ∧ some k_ ≠ (.slice (some ad322) y316.length co9 : Value).ownBlock ∧ k_ ≠ gb332) ho0 (fun k_ hk_ => ⟨Or.elim hk_ (fun hs_ => ((Kd.R_types (HO329.out) BK332.out (by decide)).1 k_ hs_.symm).1.1) (fun hn_ => (Nat.le_trans (below_size (zW HB.out)) hn_)), Or.elim hk_ (fun hs_ => ((Kd.R_types (HO329.out) BK332.out (by decide)).1 k_ hs_.symm).1.2) (fun hn_ => (Kd.fresh' (Kd.R_lt (zR HO_4.out)) k_ hn_)), Or.elim hk_ (fun hs_ => ((Kd.R_types (HO329.out) BK332.out (by decide)).1 k_ hs_.symm).2) (fun hn_ => (Kd.freshB (g := gb332) (o := .cells #[.int .i64 t324, .int .i64 t325, .int .i64 t326, .slice Ao32 t327.length co32, .int .i64 t330, .bool true] 169 (0, 0)) (zK BK332.out) k_ hn_))⟩)) (below_size (zW HB.out)))
           replace HO_4 := zr HO_4 hb
           replace HO329 := zr HO329 hb
           replace BK332 := zb BK332 hb
           replace HB := zh HB hb
           (try clear hb ho0)
           refine hK.out _ _ ⟨(blk_cell BK332.out 0).trans rfl, (blk_cell BK332.out 1).trans rfl, (blk_cell BK332.out 2).trans rfl, (blk_cell BK332.out 3).trans rfl, (blk_cell BK332.out 4).trans rfl, (blk_cell BK332.out 5).trans rfl, HS6_⟩ (fun hHeld => ?_)
           clear hK K
           refine zn ?_
           refine zp 6 2 ?_
           refine zp 7 3 ?_
           refine done_ (done_of HT_.out (by kernel_rfl)) ?_
           try go_wp2
           go_ret2
           exact ⟨_, zE, zNt (Kd.N_mono HO336.out (fun _ hk => hk.1)), zW HB.out⟩
          ·obtain ⟨y337, hy337⟩ : ∃ y_ : List (S75), y_ = (([] : List (S75))) := ⟨_, rfl⟩
           replace H : (some (y337, false)) = some (r1, r2) := zY hy337 H
           have Ny337 := Aside0.mk hy337
           clear hy337
           simp only [Option.some.injEq, Prod.mk.injEq] at H
           obtain ⟨rfl, rfl⟩ := H
           go_wp2_with (first | ((with_reducible refine zq 153 ?_); refine zg (some 41) Tryz.func153 #[.string (a0.extract (((rdOf ByteArray.empty y316 x5_2).size : Int) : Int).toNat a0.size)] ?_; (with_reducible refine (spec_l4Read.calls kj14 (a0.extract (((rdOf ByteArray.empty y316 x5_2).size : Int) : Int).toNat a0.size) t324 t325 t326 t327 t330 false _ A24.out).mono ?_); rintro e w36 ⟨v328, rfl, ho0, hb⟩; refine ⟨_, rfl, ?_⟩; have HO329 := zA (Kd.R_lower (Kd.R_new' (Kd.R_newM (M := fun k_ => (w.heap.size ≤ k_)) ho0 (below_size (zB)) (fun k_ h_ => h_)) (Kd.R_lt (zR HO_4.out))) (below_size (zB))); replace HO_4 := zA (Kd.R_elder' (zR HO_4.out) (Kd.R_base ho0) hb); replace HB := zA (below_step (zB) hb); (try clear hb ho0)) | ((with_reducible refine zd 7 ?_); refine ze 7 169 #[.int .i64 0, .int .i64 0, .int .i64 0, .slice none 0 0, .int .i64 0, .bool false] ?_; intro gb332 hg w37 hbox hb; replace HO_4 := zr HO_4 hb; replace HO329 := zr HO329 hb; have BK332 := zA (hbox); have GW332 := zi HB hg; have GE332 := zi HB hg; replace HB := zA (below_step (zB) hb); clear hb hbox hg; obtain ⟨hcz38_0, hcz38_1, hcz38_2, hcz38_3, hcz38_4, hcz38_5, hfz38_0, hfz38_1, hfz38_2, hfz38_3, hfz38_4, hfz38_5⟩ := ze6 BK332.out; obtain ⟨Ao39, co39, eo39⟩ := Kd.R_slice HO329.out; subst eo39) | ((with_reducible refine gate_store (t := 169) (p := 7) rfl ?_); refine store_event (t := 169) (p := 7) (v := ?vo_w40) (w1 := ((((((w37.setCell ⟨gb332, 0, none⟩ (.int .i64 t324)).setCell ⟨gb332, 1, none⟩ (.int .i64 t325)).setCell ⟨gb332, 2, none⟩ (.int .i64 t326)).setCell ⟨gb332, 3, none⟩ (.slice Ao39 t327.length co39)).setCell ⟨gb332, 4, none⟩ (.int .i64 t330)).setCell ⟨gb332, 5, none⟩ (.bool false))) ?hg ?ho ?hn ?hr ?_; (case ho => rfl); (case hg => rfl); (case hn => rfl); (case hr => first | (go_simp; done) | (go_simp; rfl)); intro w40 hw; have n0_ : Aside0 (Kd.R Kd.string 9 w40 w.heap.size (fun k_ => (w.heap.size ≤ k_) ∧ some k_ ≠ (.slice Ao39 t327.length co39 : Value).ownBlock) (.slice (some ad322) y316.length co9) y316) := ⟨(by rw [hw]; exact (zR (Kd.R_mono (zr6 HO_4.out BK332.out) (fun _ hk => ⟨hk.1, hk.2⟩))))⟩; have n1_ : Aside0 (Kd.R Kd.string 9 w40 w.heap.size (fun k_ => (w.heap.size ≤ k_) ∧ some k_ ≠ (.slice (some ad322) y316.length co9 : Value).ownBlock) (.slice Ao39 t327.length co39) t327) := ⟨(by rw [hw]; exact (zR (Kd.R_mono (zr6 HO329.out BK332.out) (fun _ hk => ⟨hk.1.1, hk.2⟩))))⟩; have n2_ := zA (zh1 hw (zk6 BK332.out)); have n3_ := zA (zh2 hw (zW HB.out)); clear hw; clear HO_4; clear HO329; clear BK332; clear HB; have HO_4 := n0_; have HO329 := n1_; have BK332 := n2_; have HB := n3_; clear n0_ n1_ n2_ n3_; obtain ⟨hcz41_0, hcz41_1, hcz41_2, hcz41_3, hcz41_4, hcz41_5, hfz41_0, hfz41_1, hfz41_2, hfz41_3, hfz41_4, hfz41_5⟩ := ze6 BK332.out) | ((with_reducible refine gate_dst (N := 45) rfl ?_); refine Kd.N_lit k75 _ 75 ?hg (N' := 45) ?hd (xs := ([] : List (S75))) (inner := []) (ok := (fun k_ => (w.heap.size ≤ k_) ∧ some k_ ≠ (.slice (some ad322) y316.length co9 : Value).ownBlock ∧ some k_ ≠ (.slice Ao39 t327.length co39 : Value).ownBlock ∧ k_ ≠ gb332)) ?hr ?hp (fun _ hk => hk) ((show ∀ k_, w40.heap.size ≤ k_ → (fun k_ => (w.heap.size ≤ k_) ∧ some k_ ≠ (.slice (some ad322) y316.length co9 : Value).ownBlock ∧ some k_ ≠ (.slice Ao39 t327.length co39 : Value).ownBlock ∧ k_ ≠ gb332) k_ from fun k_ hk => ⟨(Nat.le_trans (below_size (zW HB.out)) hk), Kd.fresh' (Kd.R_lt (zR HO_4.out)) k_ hk, Kd.fresh' (Kd.R_lt (zR HO329.out)) k_ hk, Kd.freshB (g := gb332) (o := .cells #[.int .i64 t324, .int .i64 t325, .int .i64 t326, .slice Ao39 t327.length co39, .int .i64 t330, .bool false] 169 (0, 0)) (zK BK332.out) k_ hk⟩) _ (Nat.le_refl _)) (Below.refl _ _) (Nat.le_refl _) (by simp) ?_; (case hd => rfl); (case hg => rfl); (case hr => first | (go_simp; done) | (go_simp; rfl)); (case hp => exact (Reps.none _ _)); intro v338 w42 ho43 hb hg_ hnew_; clear hg_ hnew_; (first | rw [← Ny337.out] at ho43 | (simp only [Int.reduceToNat] at ho43; rw [← Ny337.out] at ho43)); replace HO_4 := zr HO_4 hb; replace HO329 := zr HO329 hb; have HO339 := zA (Kd.N_lower ho43 (below_size (zW HB.out))); replace BK332 := zb BK332 hb; replace HB := zh HB hb; clear hb ho43))
           go_ret2
           exact ⟨_, zE, zNt (Kd.N_mono HO339.out (fun _ hk => hk.1)), zW HB.out⟩
         ·have H' := Aside0.mk H
          clear H
          go_wp2
          go_roundg kj14
          case measure => have := HJ1.out; have := HK2.out; have := HJ7.out; have := HJ14.out; omega
          case rel => exact ⟨(wrap64 (x5_2 + 1)), zS, H', ⟨by have := HJ1.out; have := HK2.out; have := HJ7.out; have := HJ14.out; omega⟩, ⟨zR HO_4.out⟩, ⟨zB⟩⟩
end Go.Proofs.YtpcdhoeoefoeoaaGreatDoor.PGA
