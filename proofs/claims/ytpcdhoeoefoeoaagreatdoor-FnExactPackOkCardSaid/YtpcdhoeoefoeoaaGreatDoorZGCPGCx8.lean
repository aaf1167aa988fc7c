/- The walks of the functions that these laws reach, and what each comes to: printed by this session's program. -/
import Derived.Test.YtpcdhoeoefoeoaaGreatDoorZGCPGCx0
import Derived.Test.YtpcdhoeoefoeoaaGreatDoorZGCPGCx5
import Derived.Test.YtpcdhoeoefoeoaaGreatDoorZGCPGCx7
import Derived.Test.YtpcdhoeoefoeoaaGreatDoorZGCSays
import Derived.Test.YtpcdhoeoefoeoaaGreatDoorZGCRegN
import Derived.Test.YtpcdhoeoefoeoaaGreatDoorZGCRegs
namespace Go.Proofs.YtpcdhoeoefoeoaaGreatDoor.PGC
open Go.RowKit YtpcdhoeoefoeoaaGreatDoorW.PrintWords YtpcdhoeoefoeoaaGreatDoorW.PrintLast YtpcdhoeoefoeoaaGreatDoorW.PrintMore
attribute [local go_sem high] Mine.str_gtr Mine.str_leq Mine.str_geq
attribute [local go_sem] max2_int min2_int max_two min_two max_three min_three max_four min_four   -- for this text's walks alone
set_option linter.unusedVariables false
set_option maxHeartbeats 8000000
set_option maxRecDepth 100000
set_option linter.unusedSimpArgs false
/-! ### spec_l4Word: function 125 -/
mutual
def spec_l4Word.j0 : Nat → ByteArray → Option ((List (S75)) × Bool)
 | 0, _ => none
 | k + 1, x0 => spec_l4Word.l0 k x0 (([(⟨#[94]⟩ : ByteArray), (⟨#[126]⟩ : ByteArray), (⟨#[62, 61]⟩ : ByteArray), (⟨#[62]⟩ : ByteArray), (⟨#[60, 61]⟩ : ByteArray), (⟨#[60]⟩ : ByteArray), (⟨#[61]⟩ : ByteArray), (⟨#[]⟩ : ByteArray)] : List ByteArray)) 0
def spec_l4Word.l0 : Nat → ByteArray → List ByteArray → Int → Option ((List (S75)) × Bool)
 | 0, _, _, _ => none
 | k + 1, x0, x4, x5 => if x5 < (x4.length : Int) then (spec_l4Word.j2 k x0 x4 x5) else (some ((([] : List (S75))), false))
def spec_l4Word.j2 : Nat → ByteArray → List ByteArray → Int → Option ((List (S75)) × Bool)
 | 0, _, _, _ => none
 | k + 1, x0, x4, x5 => if 0 ≤ x5 then (if x5 < (x4.length : Int) then (if (x0.size : Int) ≥ ((rdOf ByteArray.empty x4 x5).size : Int) then (if 0 ≤ ((rdOf ByteArray.empty x4 x5).size : Int) then (if ((rdOf ByteArray.empty x4 x5).size : Int) ≤ (x0.size : Int) then (spec_l4Word.j3 k x0 x4 x5 ((rdOf ByteArray.empty x4 x5).size : Int) ((x0.extract 0 (((rdOf ByteArray.empty x4 x5).size : Int) : Int).toNat).toList == (rdOf ByteArray.empty x4 x5).toList)) else (none)) else (none)) else (spec_l4Word.j3 k x0 x4 x5 ((rdOf ByteArray.empty x4 x5).size : Int) false)) else (none)) else (none)
def spec_l4Word.j3 : Nat → ByteArray → List ByteArray → Int → Int → Bool → Option ((List (S75)) × Bool)
 | 0, _, _, _, _, _ => none
 | k + 1, x0, x4, x5, x6, a1 => if a1 = true then (if 0 ≤ x6 then (if x6 ≤ (x0.size : Int) then ((spec_l4Read.f k (x0.extract (x6 : Int).toNat x0.size)).bind fun a0 => (if a0.2.2.2.2.2 = true then (if 0 ≤ x5 then (if x5 < (x4.length : Int) then ((spec_l4Make.f k (rdOf ByteArray.empty x4 x5) a0.1 a0.2.1 a0.2.2.1 a0.2.2.2.1 a0.2.2.2.2.1 a0.2.2.2.2.2).bind fun a2 => (some (a2, true))) else (none)) else (none)) else (some ((([] : List (S75))), false)))) else (none)) else (none)) else (spec_l4Word.l0 k x0 x4 (wrap64 (x5 + 1)))
end
def spec_l4Word.f (k : Nat) (a0 : ByteArray) : Option ((List (S75)) × Bool) := if a0.toList = ([42] : List UInt8) then (some ((([(⟨4, (⟨0, 0, 0, ([] : List ByteArray)⟩ : S32)⟩ : S75)] : List (S75))), true)) else (spec_l4Word.j0 k a0)
def spec_l4Word.T8 : Bool × List (List Nat × List Nat) := (true, [([], []), ([0], [0]), ([], []), ([1, 2], [1, 2]), ([3], [3]), ([4], [4]), ([4], [4]), ([5, 6, 4], [4, 5, 6]), ([4], [4]), ([4], [4]), ([8, 9, 4], [4, 8, 9]), ([10, 4], [4, 10]), ([7, 11, 4], [4, 7, 11]), ([4, 12], [4, 12])])
def spec_l4Word.B8 : List Nat := [0, 1, 0, 7, 15, 31, 31, 127, 31, 31, 799, 1823, 4095, 8191]
theorem spec_l4Word.tab8 : rtab .any (opsOf Tryz.f125 8) = spec_l4Word.T8 := by kernel_rfl
theorem spec_l4Word.bits8 : waitsOk spec_l4Word.T8.2 spec_l4Word.B8 = true := by kernel_rfl
def spec_l4Word.T12 : Bool × List (List Nat × List Nat) := (true, [([], []), ([], []), ([0, 1], [0, 1]), ([2], [2]), ([], []), ([3, 4], [3, 4]), ([5, 5, 0, 1, 2, 3, 4, 5], [5]), ([6, 0, 1, 2, 3, 4, 5, 6], [])])
def spec_l4Word.B12 : List Nat := [0, 0, 3, 7, 0, 31, 63, 127]
theorem spec_l4Word.tab12 : rtab .any (opsOf Tryz.f125 12) = spec_l4Word.T12 := by kernel_rfl
theorem spec_l4Word.bits12 : waitsOk spec_l4Word.T12.2 spec_l4Word.B12 = true := by kernel_rfl
theorem spec_l4Word.calls (k : Nat) (a0 : ByteArray) (r1 : List (S75)) (r2 : Bool) (w : World) (h : spec_l4Word.f k a0 = some (r1, r2)) :
  Calls Tryz.prog 125 #[.string a0] w fun e w' => ∃ f8 : Value, e = .returned (.tuple #[f8, .bool r2]) ∧ Kd.N k75 75 w' w.heap.size (fun k_ => (w.heap.size ≤ k_)) f8 r1 ∧ Below w.heap.size w w' := by
 have k5 := Tryz.underlying75
 have k6 := Tryz.underlying169
 have HB := zA (Below.refl w.heap.size w)
 unfold spec_l4Word.f at h
 have H := h
 clear h
 have e1 := Aside0.mk H
 clear H
 go_enter Tryz.func125, Tryz.ntmps125
 go_upto_if 9 with (fail)
 go_cut [] (fun wc => ∃ (kq : Nat), Aside0 (spec_l4Word.j0 kq a0 = some (r1, r2)) ∧ Aside0 (kq ≤ k) ∧ Aside0 (Below w.heap.size w wc))
 case first =>
  have H := e1.out
  clear e1
  replace H := zI1 H
  rcases H with ⟨c3, H⟩ | ⟨c3, H⟩
  ·have b1 := beq_iff_eq.mpr c3
   have c6 := bne_eq_false_iff_eq.mpr c3
   clear c3
   (first | rw [b1] | (simp only [i64_w, i32_w]; rw [b1]) | skip)
   obtain ⟨g7, e2⟩ : ∃ y_ : List (S75), y_ = (([(⟨4, (⟨0, 0, 0, ([] : List ByteArray)⟩ : S32)⟩ : S75)] : List (S75))) := ⟨_, rfl⟩
   replace H : (some (g7, true)) = some (r1, r2) := zY e2 H
   have f9 := Aside0.mk e2
   clear e2
   simp only [Option.some.injEq, Prod.mk.injEq] at H
   obtain ⟨rfl, rfl⟩ := H
   go_wp2_with (first | ((with_reducible refine gate_dst (N := 11) rfl ?_); refine Kd.N_lit k75 _ 75 ?hg (N' := 11) ?hd (xs := ([(⟨4, (⟨0, 0, 0, ([] : List ByteArray)⟩ : S32)⟩ : S75)] : List (S75))) (inner := [.int .i64 4, .int .i64 0, .int .i64 0, .int .i64 0, .slice none 0 0]) (ok := (fun k_ => (w.heap.size ≤ k_))) ?hr ?hp (fun _ hk => hk) ((show ∀ k_, w.heap.size ≤ k_ → (fun k_ => (w.heap.size ≤ k_)) k_ from fun k_ hk => (Nat.le_trans (below_size (zB)) hk)) _ (Nat.le_refl _)) (Below.refl _ _) (Nat.le_refl _) (by simp) ?_; (case hd => rfl); (case hg => rfl); (case hr => first | (go_simp; done) | (go_simp; rfl)); (case hp => exact (Reps.c5 (show Kd.FK k75 _ _ (⟨4, (⟨0, 0, 0, ([] : List ByteArray)⟩ : S32)⟩ : S75) [.int .i64 4, .int .i64 0, .int .i64 0, .int .i64 0, .slice none 0 0] from (k75_mkF _ _ (⟨4, (⟨0, 0, 0, ([] : List ByteArray)⟩ : S32)⟩ : S75) (Nat.le_refl _) (Kd.F_nil _ _ _))) (Reps.none _ _))); intro k7 w4 c7 hb hg_ hnew_; clear hg_ hnew_; (first | rw [← f9.out] at c7 | (simp only [Int.reduceToNat] at c7; rw [← f9.out] at c7)); have g8 := zA (Kd.N_lower c7 (below_size (zB))); replace HB := zA (below_step (zB) hb); clear hb c7))
   go_ret2
   exact ⟨_, zE, zN g8.out, zB⟩
  ·have b1 := beq_eq_false_iff_ne.mpr c3
   have c6 := bne_iff_ne.mpr c3
   (first | rw [b1] | (simp only [i64_w, i32_w]; rw [b1]) | skip)
   have H' := Aside0.mk H
   clear H
   go_wp2
   go_meet
   case rel => exact ⟨_, (by first | exact H' | (subst_vars; exact H')), ⟨by first | omega | exact Nat.le_refl _⟩, ⟨zB⟩⟩
 case rest =>
  clear e1
  try clear c1
  try clear p2
  try clear c3
  try clear b1
  try clear c6
  try clear c5
  obtain ⟨kq, HA, c8, HB⟩ := hcut
  cases kq with
  | zero => exact absurd HA.out (by simp [spec_l4Word.j0])
  | succ e3 =>
   have H := HA.out
   clear HA
   simp only [spec_l4Word.j0] at H
   obtain ⟨a2, e4⟩ : ∃ y_ : List ByteArray, y_ = (([(⟨#[94]⟩ : ByteArray), (⟨#[126]⟩ : ByteArray), (⟨#[62, 61]⟩ : ByteArray), (⟨#[62]⟩ : ByteArray), (⟨#[60, 61]⟩ : ByteArray), (⟨#[60]⟩ : ByteArray), (⟨#[61]⟩ : ByteArray), (⟨#[]⟩ : ByteArray)] : List ByteArray)) := ⟨_, rfl⟩
   replace H : (spec_l4Word.l0 e3 a0 a2 0) = some (r1, r2) := zY e4 H
   have g0 := Aside0.mk e4
   clear e4
   have H' := Aside0.mk H
   clear H
   go_wp2_with (first | ((with_reducible refine gate_dst (N := 12) rfl ?_); refine Kd.R_lit Kd.string _ 9 ?hg (N := 12) ?hd (xs := ([(⟨#[94]⟩ : ByteArray), (⟨#[126]⟩ : ByteArray), (⟨#[62, 61]⟩ : ByteArray), (⟨#[62]⟩ : ByteArray), (⟨#[60, 61]⟩ : ByteArray), (⟨#[60]⟩ : ByteArray), (⟨#[61]⟩ : ByteArray), (⟨#[]⟩ : ByteArray)] : List ByteArray)) (inner := [.string (⟨#[94]⟩ : ByteArray), .string (⟨#[126]⟩ : ByteArray), .string (⟨#[62, 61]⟩ : ByteArray), .string (⟨#[62]⟩ : ByteArray), .string (⟨#[60, 61]⟩ : ByteArray), .string (⟨#[60]⟩ : ByteArray), .string (⟨#[61]⟩ : ByteArray), .string (⟨#[]⟩ : ByteArray)]) (ok := fun _ => True) ?hr ?hp (fun _ hk => hk) trivial (Below.refl _ _) (Nat.le_refl _) (by simp) ?_; (case hd => rfl); (case hg => rfl); (case hr => first | (go_simp; done) | (go_simp; rfl)); (case hp => exact (Reps.one (show Kd.M Kd.string _ _ _ (⟨#[94]⟩ : ByteArray) [.string (⟨#[94]⟩ : ByteArray)] from rfl) (Reps.one (show Kd.M Kd.string _ _ _ (⟨#[126]⟩ : ByteArray) [.string (⟨#[126]⟩ : ByteArray)] from rfl) (Reps.one (show Kd.M Kd.string _ _ _ (⟨#[62, 61]⟩ : ByteArray) [.string (⟨#[62, 61]⟩ : ByteArray)] from rfl) (Reps.one (show Kd.M Kd.string _ _ _ (⟨#[62]⟩ : ByteArray) [.string (⟨#[62]⟩ : ByteArray)] from rfl) (Reps.one (show Kd.M Kd.string _ _ _ (⟨#[60, 61]⟩ : ByteArray) [.string (⟨#[60, 61]⟩ : ByteArray)] from rfl) (Reps.one (show Kd.M Kd.string _ _ _ (⟨#[60]⟩ : ByteArray) [.string (⟨#[60]⟩ : ByteArray)] from rfl) (Reps.one (show Kd.M Kd.string _ _ _ (⟨#[61]⟩ : ByteArray) [.string (⟨#[61]⟩ : ByteArray)] from rfl) (Reps.one (show Kd.M Kd.string _ _ _ (⟨#[]⟩ : ByteArray) [.string (⟨#[]⟩ : ByteArray)] from rfl) (Reps.none _ _)))))))))); intro g9 w6 c9 hb hg_ hnew_; clear hg_ hnew_; (first | rw [← g0.out] at c9 | (simp only [Int.reduceToNat] at c9; rw [← g0.out] at c9)); have h0 := zA (Kd.R_lower (Kd.R_newM (M := fun k_ => (w.heap.size ≤ k_)) c9 (below_size (zB)) (fun k_ h_ => h_)) (below_size (zB))); replace HB := zA (below_step (zB) hb); clear hb c9))
   go_loopg [5] e3 (fun kq v5 w' => ∃ (a4 : Int), v5 = .int .i64 a4 ∧ Aside0 (spec_l4Word.l0 kq a0 a2 a4 = some (r1, r2)) ∧ Aside0 (kq ≤ e3) ∧ Aside0 (Kd.R Kd.string 9 w' w.heap.size (fun k_ => (w.heap.size ≤ k_)) g9 a2) ∧ Aside0 (Below w.heap.size w w'))
   case atStart => exact ⟨(0), zS, H', ⟨Nat.le_refl _⟩, ⟨zR (Kd.R_mono h0.out (fun _ hk => hk.1))⟩, ⟨zB⟩⟩
   case round =>
    clear H'
    try clear c1
    try clear p2
    try clear c3
    try clear b1
    try clear c6
    try clear c5
    try clear p2
    obtain ⟨a4, rfl, HA, d0, a1, HB⟩ := hrel
    cases gk with
    | zero => exact absurd HA.out (by simp [spec_l4Word.l0])
    | succ k2 =>
     have H := HA.out
     clear HA
     simp only [spec_l4Word.l0] at H
     have e5 := Aside0.mk H
     clear H
     obtain ⟨e6, a9, h1⟩ := Kd.R_slice a1.out
     subst h1
     go_upto_if 16 with (fail)
     go_cut [] (fun wc => ∃ (kq : Nat), Aside0 (spec_l4Word.j2 kq a0 a2 a4 = some (r1, r2)) ∧ Aside0 (kq ≤ k2) ∧ Aside0 (Kd.R Kd.string 9 wc w.heap.size (fun k_ => (w.heap.size ≤ k_)) (.slice e6 a2.length a9) a2) ∧ Aside0 (Below w.heap.size w wc))
     case first =>
      have H := e5.out
      clear e5
      replace H := zI0 H
      rcases H with ⟨b7, H⟩ | ⟨b7, H⟩
      ·(first | rw [b7] | (simp only [i64_w, i32_w]; rw [b7]) | skip)
       have H' := Aside0.mk H
       clear H
       go_wp2
       go_meet
       case rel => exact ⟨_, (by first | exact H' | (subst_vars; exact H')), ⟨by have := c8.out; have := d0.out; first | omega | exact Nat.le_refl _⟩, ⟨zR a1.out⟩, ⟨zB⟩⟩
      ·(first | rw [b7] | (simp only [i64_w, i32_w]; rw [b7]) | skip)
       obtain ⟨h2, e7⟩ : ∃ y_ : List (S75), y_ = (([] : List (S75))) := ⟨_, rfl⟩
       replace H : (some (h2, false)) = some (r1, r2) := zY e7 H
       have g1 := Aside0.mk e7
       clear e7
       simp only [Option.some.injEq, Prod.mk.injEq] at H
       obtain ⟨rfl, rfl⟩ := H
       go_wp2_with (first | ((with_reducible refine gate_dst (N := 52) rfl ?_); refine Kd.N_lit k75 _ 75 ?hg (N' := 52) ?hd (xs := ([] : List (S75))) (inner := []) (ok := (fun k_ => (w.heap.size ≤ k_) ∧ some k_ ≠ (.slice e6 a2.length a9 : Value).ownBlock)) ?hr ?hp (fun _ hk => hk) ((show ∀ k_, wr.heap.size ≤ k_ → (fun k_ => (w.heap.size ≤ k_) ∧ some k_ ≠ (.slice e6 a2.length a9 : Value).ownBlock) k_ from fun k_ hk => ⟨(Nat.le_trans (below_size (zB)) hk), Kd.fresh' (Kd.R_lt (zR a1.out)) k_ hk⟩) _ (Nat.le_refl _)) (Below.refl _ _) (Nat.le_refl _) (by simp) ?_; (case hd => rfl); (case hg => rfl); (case hr => first | (go_simp; done) | (go_simp; rfl)); (case hp => exact (Reps.none _ _)); intro k8 k9 d1 hb hg_ hnew_; clear hg_ hnew_; (first | rw [← g1.out] at d1 | (simp only [Int.reduceToNat] at d1; rw [← g1.out] at d1)); replace a1 := zr a1 hb; have h3 := zA (Kd.N_lower d1 (below_size (zB))); replace HB := zA (below_step (zB) hb); clear hb d1))
       go_ret2
       exact ⟨_, zE, zNt (Kd.N_mono h3.out (fun _ hk => hk.1)), zB⟩
     case rest =>
      clear e5
      try clear c1
      try clear p2
      try clear c3
      try clear b1
      try clear c6
      try clear c5
      try clear c10
      try clear b7
      try clear c12
      try clear p2
      obtain ⟨kq, HA, d3, a1, HB⟩ := hcut
      cases kq with
      | zero => exact absurd HA.out (by simp [spec_l4Word.j2])
      | succ h4 =>
       have H := HA.out
       clear HA
       simp only [spec_l4Word.j2] at H
       replace H := zD0 H
       obtain ⟨h5, H⟩ := H
       replace H := zD0 H
       obtain ⟨h6, H⟩ := H
       have e8 := Aside0.mk H
       clear H
       have d4 : 0 ≤ (a4 : Int) := zD
       have d5 : a4 < (a2.length : Int) := zD
       obtain ⟨a8, h7, h8⟩ := Kd.at_string (Kd.R_reads' a1.out).2.2 a4 d4 d5
       cases h7
       replace d4 := eq_true d4
       replace d5 := eq_true d5
       go_upto_region 8 with (fail)
       go_cut [37] (fun h9 wc => ∃ (kq : Nat) (e9 : Bool), h9 = .bool e9 ∧ Aside0 (spec_l4Word.j3 kq a0 a2 a4 ((rdOf ByteArray.empty a2 a4).size : Int) e9 = some (r1, r2)) ∧ Aside0 (kq ≤ h4) ∧ Aside0 (Kd.R Kd.string 9 wc w.heap.size (fun k_ => (w.heap.size ≤ k_)) (.slice (some a8) a2.length a9) a2) ∧ Aside0 (Below w.heap.size w wc))
       case first =>
        have H := e8.out
        clear e8
        replace H := zI1 H
        rcases H with ⟨b6, H⟩ | ⟨b6, H⟩
        ·have c0 : decide (((rdOf ByteArray.empty a2 a4).size : Int) ≤ (a0.size : Int)) = true := decide_eq_true b6
         have g2 : decide ((rdOf ByteArray.empty a2 a4).size ≤ a0.size) = true := decide_eq_true (Int.ofNat_le.mp b6)
         clear b6
         (first | rw [c0] | (simp only [i64_w, i32_w]; rw [c0]) | skip)
         replace H := zC0 H
         obtain ⟨d6, H⟩ := H
         have i0 := eq_true d6
         have i1 := decide_eq_true d6
         clear d6
         replace H := zC0 H
         obtain ⟨d7, H⟩ := H
         have i2 := eq_true d7
         have i3 := decide_eq_true d7
         clear d7
         have H' := Aside0.mk H
         clear H
         try go_wp2
         replace a1 := zA (Kd.R_drew a1.out)
         replace HB := zA (below_drew1 HB.out)
         have d8 : 0 ≤ (a4 : Int) := zD
         have d9 : a4 < (a2.length : Int) := zD
         obtain ⟨i4, i5, f0⟩ := Kd.at_string (Kd.R_reads' a1.out).2.2 a4 d8 d9
         obtain rfl : a8 = i4 := (by injection i5)
         replace d8 := eq_true d8
         replace d9 := eq_true d9
         refine start_ (n := 14) (S := fun w' => w'.cell? (a8.add (a4).toNat) = some (.string (rdOf ByteArray.empty a2 a4))) (ds := []) (Array.replicate 14 false) (by kernel_rfl) rfl rfl (f0) (fun hHeld => ?_); refine with_tabW spec_l4Word.tab8 spec_l4Word.bits8 (fun HT_ HW_ => ?_)
         generalize wc.drew = l1 at a1 HB f0 hHeld ⊢
         refine zp 0 24 ?_
         refine zp 1 25 ?_
         refine zp 2 26 ?_
         refine zp 3 27 ?_
         refine zp 4 28 ?_
         refine zp 5 29 ?_
         refine zp 6 30 ?_
         refine zp 7 31 ?_
         refine zp 8 32 ?_
         refine zp 9 33 ?_
         refine zp 10 34 ?_
         refine take_ (i := 11) (N := some 35) (v := ?_) (a' := ?_) #[true, true, true, true, true, true, true, true, true, true, true, true, false, false] rfl rfl (take_ofW HT_.out HW_.out (by kernel_rfl)) (fun _ _ _ h => h) (Or.inl ⟨by rfl, ?_⟩) hHeld ?_ ?_
         rotate_left
         ·intro w' s0
          go_simp
          with_reducible rfl
         rotate_left
         ·simp only [Act.put, zT, i64_w, i32_w]
          rfl
         refine zp 12 36 ?_
         refine zp 13 37 ?_
         refine done_ (done_of HT_.out (by kernel_rfl)) ?_
         try go_wp2
         go_meet
         case rel => exact ⟨_, (((a0.extract 0 (((rdOf ByteArray.empty a2 a4).size : Int) : Int).toNat).toList == (rdOf ByteArray.empty a2 a4).toList)), zS, (by first | exact H' | (subst_vars; exact H')), ⟨by have := c8.out; have := d0.out; have := d3.out; first | omega | exact Nat.le_refl _⟩, ⟨zR a1.out⟩, ⟨zB⟩⟩
        ·have c0 : decide (((rdOf ByteArray.empty a2 a4).size : Int) ≤ (a0.size : Int)) = false := decide_eq_false b6
         have g2 : decide ((rdOf ByteArray.empty a2 a4).size ≤ a0.size) = false := decide_eq_false (fun h => b6 (Int.ofNat_le.mpr h))
         clear b6
         (first | rw [c0] | (simp only [i64_w, i32_w]; rw [c0]) | skip)
         have H' := Aside0.mk H
         clear H
         try go_wp2
         replace a1 := zA (Kd.R_drew a1.out)
         replace HB := zA (below_drew1 HB.out)
         refine start_ (n := 14) (S := fun w' => True) (ds := []) (Array.replicate 14 false) (by kernel_rfl) rfl rfl trivial (fun hHeld => ?_); refine with_tabW spec_l4Word.tab8 spec_l4Word.bits8 (fun HT_ HW_ => ?_)
         generalize wc.drew = l2 at a1 HB hHeld ⊢
         refine zp 0 24 ?_
         refine zp 1 25 ?_
         refine zp 2 26 ?_
         refine zp 3 27 ?_
         refine zp 4 28 ?_
         refine zu 5 29 ?_
         refine zu 6 30 ?_
         refine zu 7 31 ?_
         refine zu 8 32 ?_
         refine zu 9 33 ?_
         refine zu 10 34 ?_
         refine zu 11 35 ?_
         refine zu 12 36 ?_
         refine zp 13 37 ?_
         refine done_ (done_of HT_.out (by kernel_rfl)) ?_
         try go_wp2
         go_meet
         case rel => exact ⟨_, (false), zS, (by first | exact H' | (subst_vars; exact H')), ⟨by have := c8.out; have := d0.out; have := d3.out; first | omega | exact Nat.le_refl _⟩, ⟨zR a1.out⟩, ⟨zB⟩⟩
       case rest =>
        clear e8
        try clear c1
        try clear p2
        try clear c3
        try clear b1
        try clear c6
        try clear p3
        try clear q3
        try clear hx3
        try clear c5
        try clear c10
        try clear b7
        try clear c12
        try clear c13
        try clear h5
        try clear c14
        try clear h6
        try clear b6
        try clear c0
        try clear g2
        try clear d6
        try clear i0
        try clear i1
        try clear d7
        try clear i2
        try clear i3
        try clear h8
        try clear f0
        try clear p2
        try clear d4
        try clear d8
        try clear d5
        try clear d9
        obtain ⟨kq, e9, rfl, HA, g3, a1, HB⟩ := hcut
        cases kq with
        | zero => exact absurd HA.out (by simp [spec_l4Word.j3])
        | succ e0 =>
         have H := HA.out
         clear HA
         simp only [spec_l4Word.j3] at H
         replace H := zB0 H
         rcases H with ⟨rfl, H⟩ | ⟨rfl, H⟩
         ·replace H := zC0 H
          obtain ⟨f1, H⟩ := H
          have l3 := eq_true f1
          have l4 := decide_eq_true f1
          clear f1
          replace H := zC0 H
          obtain ⟨f2, H⟩ := H
          have l5 := eq_true f2
          have l6 := decide_eq_true f2
          clear f2
          replace H := zj H
          obtain ⟨⟨b2, b3, b4, a7, b5, l7⟩, g4, H⟩ := H
          try dsimp only at H
          replace H := zB0 H
          rcases H with ⟨rfl, H⟩ | ⟨rfl, H⟩
          ·replace H := zD0 H
           obtain ⟨l8, H⟩ := H
           replace H := zD0 H
           obtain ⟨l9, H⟩ := H
           replace H := zj H
           obtain ⟨i6, i7, H⟩ := H
           try dsimp only at H
           simp only [Option.some.injEq, Prod.mk.injEq] at H
           obtain ⟨rfl, rfl⟩ := H
           try go_wp2_with (first | ((with_reducible refine zq 153 ?_); refine zg (some 41) Tryz.func153 #[.string (a0.extract (((rdOf ByteArray.empty a2 a4).size : Int) : Int).toNat a0.size)] ?_; (with_reducible refine (spec_l4Read.calls e0 (a0.extract (((rdOf ByteArray.empty a2 a4).size : Int) : Int).toNat a0.size) b2 b3 b4 a7 b5 true _ g4.out).mono ?_); rintro e m0 ⟨i8, rfl, b0, hb⟩; refine ⟨_, rfl, ?_⟩; have a6 := zA (Kd.R_lower (Kd.R_new' (Kd.R_newM (M := fun k_ => (w.heap.size ≤ k_)) b0 (below_size (zB)) (fun k_ h_ => h_)) (Kd.R_lt (zR a1.out))) (below_size (zB))); replace a1 := zA (Kd.R_elder' (zR a1.out) (Kd.R_base b0) hb); replace HB := zA (below_step (zB) hb); (try clear hb b0)) | ((with_reducible refine zd 7 ?_); refine ze 7 169 #[.int .i64 0, .int .i64 0, .int .i64 0, .slice none 0 0, .int .i64 0, .bool false] ?_; intro a5 hg i9 hbox hb; replace a1 := zr a1 hb; replace a6 := zr a6 hb; have a3 := zA (hbox); have j1 := zi HB hg; have j4 := zi HB hg; replace HB := zA (below_step (zB) hb); clear hb hbox hg; obtain ⟨m1, m2, m3, m4, m5, m6, m7, m8, m9, n0, n1, n2⟩ := ze6 a3.out; obtain ⟨b8, b9, j5⟩ := Kd.R_slice a6.out; subst j5))
           generalize hW_ : ((((((i9.setCell ⟨a5, 0, none⟩ (.int .i64 b2)).setCell ⟨a5, 1, none⟩ (.int .i64 b3)).setCell ⟨a5, 2, none⟩ (.int .i64 b4)).setCell ⟨a5, 3, none⟩ (.slice b8 a7.length b9)).setCell ⟨a5, 4, none⟩ (.int .i64 b5)).setCell ⟨a5, 5, none⟩ (.bool true)) = f3
           replace a1 : Aside0 (Kd.R Kd.string 9 f3 w.heap.size (fun k_ => (w.heap.size ≤ k_) ∧ some k_ ≠ (.slice b8 a7.length b9 : Value).ownBlock) (.slice (some a8) a2.length a9) a2) := ⟨by subst hW_; exact zR (Kd.R_mono (zr6 a1.out a3.out) (fun _ hk => ⟨hk.1, hk.2⟩))⟩
           replace a6 : Aside0 (Kd.R Kd.string 9 f3 w.heap.size (fun k_ => (w.heap.size ≤ k_) ∧ some k_ ≠ (.slice (some a8) a2.length a9 : Value).ownBlock) (.slice b8 a7.length b9) a7) := ⟨by subst hW_; exact zR (Kd.R_mono (zr6 a6.out a3.out) (fun _ hk => ⟨hk.1.1, hk.2⟩))⟩
           replace a3 := zA (zh1 hW_.symm (zk6 a3.out))
           replace HB := zA (zh2 hW_.symm (zW HB.out))
           clear hW_
           replace a1 := zA (Kd.R_drew a1.out)
           replace a6 := zA (Kd.R_drew a6.out)
           replace a3 := zA (blk_drew a3.out)
           replace HB := zA (below_drew1 HB.out)
           have f4 : 0 ≤ (a4 : Int) := zD
           have f5 : a4 < (a2.length : Int) := zD
           obtain ⟨j6, j7, g5⟩ := Kd.at_string (Kd.R_reads' a1.out).2.2 a4 f4 f5
           obtain rfl : a8 = j6 := (by injection j7)
           replace f4 := eq_true f4
           replace f5 := eq_true f5
           refine start_ (n := 8) (S := fun w' => w'.cell? ⟨a5, 0, none⟩ = some (.int .i64 b2) ∧ w'.cell? ⟨a5, 1, none⟩ = some (.int .i64 b3) ∧ w'.cell? ⟨a5, 2, none⟩ = some (.int .i64 b4) ∧ w'.cell? ⟨a5, 3, none⟩ = some (.slice b8 a7.length b9) ∧ w'.cell? ⟨a5, 4, none⟩ = some (.int .i64 b5) ∧ w'.cell? ⟨a5, 5, none⟩ = some (.bool true) ∧ w'.cell? (a8.add (a4).toNat) = some (.string (rdOf ByteArray.empty a2 a4))) (ds := []) (Array.replicate 8 false) (by kernel_rfl) rfl rfl ⟨(blk_cell a3.out 0).trans rfl, (blk_cell a3.out 1).trans rfl, (blk_cell a3.out 2).trans rfl, (blk_cell a3.out 3).trans rfl, (blk_cell a3.out 4).trans rfl, (blk_cell a3.out 5).trans rfl, g5⟩ (fun hHeld => ?_); refine with_tabW spec_l4Word.tab12 spec_l4Word.bits12 (fun HT_ HW_ => ?_)
           generalize f3.drew = n3 at a1 a6 a3 HB g5 hHeld ⊢
           refine zp 0 46 ?_
           refine zp 1 47 ?_
           refine zp 2 48 ?_
           refine zt 3 49 ?_
           refine zt 4 50 ?_
           refine zo 5 (some 51) fun K hK => ?_
           refine goes_ Tryz.func154 (by kernel_rfl) rfl #[.string (rdOf ByteArray.empty a2 a4), .agg #[.int .i64 b2, .int .i64 b3, .int .i64 b4, .slice b8 a7.length b9, .int .i64 b5, .bool true]] (by rfl) rfl rfl zM ?_
           with_reducible refine (spec_l4Make.calls e0 (rdOf ByteArray.empty a2 a4) b2 b3 b4 (fun k_ => some k_ = (.slice b8 a7.length b9 : Value).ownBlock) _ _ a7 b5 true i6 _ ?side1 i7.out).mono ?_
           (case side1 => exact Kd.R_V (Kd.R_tight rfl (Kd.R_types (a6.out) a3.out (by decide))))
           rintro e n4 ⟨n5, rfl, b0, hb⟩
           have j8 := (hb.cell (World.block_lt_of_cell? _ _ (hHeld.2.2.2.2.2.2))).trans (hHeld.2.2.2.2.2.2)
           refine ⟨_, rfl, ?_⟩
           have j9 := zA (Kd.N_lower (Kd.N_mono (ok' := fun k_ => (w.heap.size ≤ k_) ∧ some k_ ≠ (.slice (some a8) a2.length a9 : Value).ownBlock ∧ k_ ≠ a5) b0 (fun k_ hk_ => ⟨Or.elim hk_ (fun hs_ => ((Kd.R_types (a6.out) a3.out (by decide)).1 k_ hs_.symm).1.1) (fun hn_ => (Nat.le_trans (below_size (zW HB.out)) hn_)), Or.elim hk_ (fun hs_ => ((Kd.R_types (a6.out) a3.out (by decide)).1 k_ hs_.symm).1.2) (fun hn_ => (Kd.fresh' (Kd.R_lt (zR a1.out)) k_ hn_)), Or.elim hk_ (fun hs_ => ((Kd.R_types (a6.out) a3.out (by decide)).1 k_ hs_.symm).2) (fun hn_ => (Kd.freshB (g := a5) (o := .cells #[.int .i64 b2, .int .i64 b3, .int .i64 b4, .slice b8 a7.length b9, .int .i64 b5, .bool true] 169 (0, 0)) (zK a3.out) k_ hn_))⟩)) (below_size (zW HB.out)))
           replace a1 := zr a1 hb
           replace a6 := zr a6 hb
           replace a3 := zb a3 hb
           replace HB := zh HB hb
           (try clear hb b0)
           refine hK.out _ _ ⟨(blk_cell a3.out 0).trans rfl, (blk_cell a3.out 1).trans rfl, (blk_cell a3.out 2).trans rfl, (blk_cell a3.out 3).trans rfl, (blk_cell a3.out 4).trans rfl, (blk_cell a3.out 5).trans rfl, j8⟩ (fun hHeld => ?_)
           clear hK K
           refine zn ?_
           refine zp 6 2 ?_
           refine zp 7 3 ?_
           refine done_ (done_of HT_.out (by kernel_rfl)) ?_
           try go_wp2
           go_ret2
           exact ⟨_, zE, zNt (Kd.N_mono j9.out (fun _ hk => hk.1)), zW HB.out⟩
          ·obtain ⟨k0, f6⟩ : ∃ y_ : List (S75), y_ = (([] : List (S75))) := ⟨_, rfl⟩
           replace H : (some (k0, false)) = some (r1, r2) := zY f6 H
           have g6 := Aside0.mk f6
           clear f6
           simp only [Option.some.injEq, Prod.mk.injEq] at H
           obtain ⟨rfl, rfl⟩ := H
           go_wp2_with (first | ((with_reducible refine zq 153 ?_); refine zg (some 41) Tryz.func153 #[.string (a0.extract (((rdOf ByteArray.empty a2 a4).size : Int) : Int).toNat a0.size)] ?_; (with_reducible refine (spec_l4Read.calls e0 (a0.extract (((rdOf ByteArray.empty a2 a4).size : Int) : Int).toNat a0.size) b2 b3 b4 a7 b5 false _ g4.out).mono ?_); rintro e n6 ⟨i8, rfl, b0, hb⟩; refine ⟨_, rfl, ?_⟩; have a6 := zA (Kd.R_lower (Kd.R_new' (Kd.R_newM (M := fun k_ => (w.heap.size ≤ k_)) b0 (below_size (zB)) (fun k_ h_ => h_)) (Kd.R_lt (zR a1.out))) (below_size (zB))); replace a1 := zA (Kd.R_elder' (zR a1.out) (Kd.R_base b0) hb); replace HB := zA (below_step (zB) hb); (try clear hb b0)) | ((with_reducible refine zd 7 ?_); refine ze 7 169 #[.int .i64 0, .int .i64 0, .int .i64 0, .slice none 0 0, .int .i64 0, .bool false] ?_; intro a5 hg k1 hbox hb; replace a1 := zr a1 hb; replace a6 := zr a6 hb; have a3 := zA (hbox); have j1 := zi HB hg; have j4 := zi HB hg; replace HB := zA (below_step (zB) hb); clear hb hbox hg; obtain ⟨n7, n8, n9, o0, o1, o2, o3, o4, o5, o6, o7, o8⟩ := ze6 a3.out; obtain ⟨c2, c4, k3⟩ := Kd.R_slice a6.out; subst k3) | ((with_reducible refine gate_store (t := 169) (p := 7) rfl ?_); refine store_event (t := 169) (p := 7) (v := ?vo_w40) (w1 := ((((((k1.setCell ⟨a5, 0, none⟩ (.int .i64 b2)).setCell ⟨a5, 1, none⟩ (.int .i64 b3)).setCell ⟨a5, 2, none⟩ (.int .i64 b4)).setCell ⟨a5, 3, none⟩ (.slice c2 a7.length c4)).setCell ⟨a5, 4, none⟩ (.int .i64 b5)).setCell ⟨a5, 5, none⟩ (.bool false))) ?hg ?ho ?hn ?hr ?_; (case ho => rfl); (case hg => rfl); (case hn => rfl); (case hr => first | (go_simp; done) | (go_simp; rfl)); intro f7 hw; replace a1 : Aside0 (Kd.R Kd.string 9 f7 w.heap.size (fun k_ => (w.heap.size ≤ k_) ∧ some k_ ≠ (.slice c2 a7.length c4 : Value).ownBlock) (.slice (some a8) a2.length a9) a2) := ⟨(by rw [hw]; exact (zR (Kd.R_mono (zr6 a1.out a3.out) (fun _ hk => ⟨hk.1, hk.2⟩))))⟩; replace a6 : Aside0 (Kd.R Kd.string 9 f7 w.heap.size (fun k_ => (w.heap.size ≤ k_) ∧ some k_ ≠ (.slice (some a8) a2.length a9 : Value).ownBlock) (.slice c2 a7.length c4) a7) := ⟨(by rw [hw]; exact (zR (Kd.R_mono (zr6 a6.out a3.out) (fun _ hk => ⟨hk.1.1, hk.2⟩))))⟩; replace a3 := zA (zh1 hw (zk6 a3.out)); replace HB := zA (zh2 hw (zW HB.out)); clear hw; obtain ⟨o9, p0, p1, p4, p5, p6, p7, p8, p9, q0, q1, q2⟩ := ze6 a3.out) | ((with_reducible refine gate_dst (N := 45) rfl ?_); refine Kd.N_lit k75 _ 75 ?hg (N' := 45) ?hd (xs := ([] : List (S75))) (inner := []) (ok := (fun k_ => (w.heap.size ≤ k_) ∧ some k_ ≠ (.slice (some a8) a2.length a9 : Value).ownBlock ∧ some k_ ≠ (.slice c2 a7.length c4 : Value).ownBlock ∧ k_ ≠ a5)) ?hr ?hp (fun _ hk => hk) ((show ∀ k_, f7.heap.size ≤ k_ → (fun k_ => (w.heap.size ≤ k_) ∧ some k_ ≠ (.slice (some a8) a2.length a9 : Value).ownBlock ∧ some k_ ≠ (.slice c2 a7.length c4 : Value).ownBlock ∧ k_ ≠ a5) k_ from fun k_ hk => ⟨(Nat.le_trans (below_size (zW HB.out)) hk), Kd.fresh' (Kd.R_lt (zR a1.out)) k_ hk, Kd.fresh' (Kd.R_lt (zR a6.out)) k_ hk, Kd.freshB (g := a5) (o := .cells #[.int .i64 b2, .int .i64 b3, .int .i64 b4, .slice c2 a7.length c4, .int .i64 b5, .bool false] 169 (0, 0)) (zK a3.out) k_ hk⟩) _ (Nat.le_refl _)) (Below.refl _ _) (Nat.le_refl _) (by simp) ?_; (case hd => rfl); (case hg => rfl); (case hr => first | (go_simp; done) | (go_simp; rfl)); (case hp => exact (Reps.none _ _)); intro q4 q5 d2 hb hg_ hnew_; clear hg_ hnew_; (first | rw [← g6.out] at d2 | (simp only [Int.reduceToNat] at d2; rw [← g6.out] at d2)); replace a1 := zr a1 hb; replace a6 := zr a6 hb; have k4 := zA (Kd.N_lower d2 (below_size (zW HB.out))); replace a3 := zb a3 hb; replace HB := zh HB hb; clear hb d2))
           go_ret2
           exact ⟨_, zE, zNt (Kd.N_mono k4.out (fun _ hk => hk.1)), zW HB.out⟩
         ·have H' := Aside0.mk H
          clear H
          go_wp2
          go_roundg e0
          case measure => have := c8.out; have := d0.out; have := d3.out; have := g3.out; omega
          case rel => exact ⟨(wrap64 (a4 + 1)), zS, H', ⟨by have := c8.out; have := d0.out; have := d3.out; have := g3.out; omega⟩, ⟨zR a1.out⟩, ⟨zB⟩⟩
end Go.Proofs.YtpcdhoeoefoeoaaGreatDoor.PGC
