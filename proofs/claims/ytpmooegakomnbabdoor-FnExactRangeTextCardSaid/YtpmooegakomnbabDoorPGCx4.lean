/- The walks of the functions that these laws reach, and what each comes to: printed by this session's program. -/
import Derived.Test.YtpmooegakomnbabDoorPGCx0
import Derived.Test.YtpmooegakomnbabDoorPGCx1
import Derived.Test.YtpmooegakomnbabDoorPGCx3
namespace Go.Proofs.YtpmooegakomnbabDoor.PGC
open Go.RowKit Go.Proofs.YtpmooegakomnbabDoorW.PrintWords Go.Proofs.YtpmooegakomnbabDoorW.PrintLast Go.Proofs.YtpmooegakomnbabDoorW.PrintMore
attribute [local go_sem high] Go.Proofs.YtpmooegakomnbabDoor.Mine.str_gtr Go.Proofs.YtpmooegakomnbabDoor.Mine.str_leq Go.Proofs.YtpmooegakomnbabDoor.Mine.str_geq
attribute [local go_sem] max2_int min2_int max_two min_two max_three min_three max_four min_four   -- for this text's walks alone
set_option linter.unusedVariables false
set_option linter.unusedSimpArgs false

/-! ### spec_RangeText: function 16 -/
mutual
def spec_RangeText.l0 : Nat → List (List (S68)) → List ByteArray → ByteArray → Int → Option (ByteArray)
  | 0, _, _, _, _ => none
  | k + 1, x0, x3, x4, x5 => if x5 < (x0.length : Int) then (spec_RangeText.j1 k x0 x3 x4 x5) else (some x4)
def spec_RangeText.j1 : Nat → List (List (S68)) → List ByteArray → ByteArray → Int → Option (ByteArray)
  | 0, _, _, _, _ => none
  | k + 1, x0, x3, x4, x5 => if x5 > 0 then (if x4.size + 4 ≤ 9223372036854775807 then (spec_RangeText.j2 k x0 x3 (x4 ++ (⟨#[32, 124, 124, 32]⟩ : ByteArray)) x5) else (none)) else (spec_RangeText.j2 k x0 x3 x4 x5)
def spec_RangeText.j2 : Nat → List (List (S68)) → List ByteArray → ByteArray → Int → Option (ByteArray)
  | 0, _, _, _, _ => none
  | k + 1, x0, x3, x4, x5 => spec_RangeText.l1 k x0 x3 x4 x5 0 0
def spec_RangeText.l1 : Nat → List (List (S68)) → List ByteArray → ByteArray → Int → Int → Int → Option (ByteArray)
  | 0, _, _, _, _, _, _ => none
  | k + 1, x0, x3, x4, x5, x6, x7 => if 0 ≤ x5 then (if x5 < (x0.length : Int) then (if x7 < ((rd_L9 x0 x5).length : Int) then (spec_RangeText.j4 k x0 x3 x4 x5 x6 x7) else (spec_RangeText.l0 k x0 x3 x4 (wrap64 (x5 + 1)))) else (none)) else (none)
def spec_RangeText.j4 : Nat → List (List (S68)) → List ByteArray → ByteArray → Int → Int → Int → Option (ByteArray)
  | 0, _, _, _, _, _, _ => none
  | k + 1, x0, x3, x4, x5, x6, x7 => if 0 ≤ x5 then (if x5 < (x0.length : Int) then (if 0 ≤ x7 then (if x7 < ((rd_L9 x0 x5).length : Int) then ((spec_l1In.f ((rd_T68 (rd_L9 x0 x5) x7).f0) 0 4).bind fun t144 => (if t144 = true then (if x6 > 0 then (if x4.size + 1 ≤ 9223372036854775807 then (if 0 ≤ ((rd_T68 (rd_L9 x0 x5) x7).f0) then (if ((rd_T68 (rd_L9 x0 x5) x7).f0) < (x3.length : Int) then (if (x4 ++ (⟨#[32]⟩ : ByteArray)).size + (rdOf ByteArray.empty x3 ((rd_T68 (rd_L9 x0 x5) x7).f0)).size ≤ 9223372036854775807 then ((spec_VerText.f k ((rd_T68 (rd_L9 x0 x5) x7).f1.f0) ((rd_T68 (rd_L9 x0 x5) x7).f1.f1) ((rd_T68 (rd_L9 x0 x5) x7).f1.f2) ((rd_T68 (rd_L9 x0 x5) x7).f1.f3)).bind fun t150 => (if ((x4 ++ (⟨#[32]⟩ : ByteArray)) ++ (rdOf ByteArray.empty x3 ((rd_T68 (rd_L9 x0 x5) x7).f0))).size + t150.size ≤ 9223372036854775807 then (spec_RangeText.l1 k x0 x3 (((x4 ++ (⟨#[32]⟩ : ByteArray)) ++ (rdOf ByteArray.empty x3 ((rd_T68 (rd_L9 x0 x5) x7).f0))) ++ t150) x5 (wrap64 (x6 + 1)) (wrap64 (x7 + 1))) else (none))) else (none)) else (none)) else (none)) else (none)) else (if 0 ≤ ((rd_T68 (rd_L9 x0 x5) x7).f0) then (if ((rd_T68 (rd_L9 x0 x5) x7).f0) < (x3.length : Int) then (if x4.size + (rdOf ByteArray.empty x3 ((rd_T68 (rd_L9 x0 x5) x7).f0)).size ≤ 9223372036854775807 then ((spec_VerText.f k ((rd_T68 (rd_L9 x0 x5) x7).f1.f0) ((rd_T68 (rd_L9 x0 x5) x7).f1.f1) ((rd_T68 (rd_L9 x0 x5) x7).f1.f2) ((rd_T68 (rd_L9 x0 x5) x7).f1.f3)).bind fun t156 => (if (x4 ++ (rdOf ByteArray.empty x3 ((rd_T68 (rd_L9 x0 x5) x7).f0))).size + t156.size ≤ 9223372036854775807 then (spec_RangeText.l1 k x0 x3 ((x4 ++ (rdOf ByteArray.empty x3 ((rd_T68 (rd_L9 x0 x5) x7).f0))) ++ t156) x5 (wrap64 (x6 + 1)) (wrap64 (x7 + 1))) else (none))) else (none)) else (none)) else (none))) else (spec_RangeText.l1 k x0 x3 x4 x5 x6 (wrap64 (x7 + 1))))) else (none)) else (none)) else (none)) else (none)
end
def spec_RangeText.f (k : Nat) (l0 : List (List (S68))) : Option (ByteArray) := spec_RangeText.l0 k l0 (([(⟨#[61]⟩ : ByteArray), (⟨#[60]⟩ : ByteArray), (⟨#[60, 61]⟩ : ByteArray), (⟨#[62]⟩ : ByteArray), (⟨#[62, 61]⟩ : ByteArray)] : List ByteArray)) (⟨#[]⟩ : ByteArray) 0
def spec_RangeText.T16 : Bool × List (List Nat × List Nat) := (true, [([], []), ([], []), ([], []), ([], []), ([2, 3], [2, 3]), ([4], [4]), ([], []), ([5, 6], [5, 6]), ([7], [7]), ([8], [8]), ([1, 9], [1, 9]), ([10], [10]), ([0, 11], [0, 11]), ([], []), ([], []), ([13, 14], [13, 14]), ([15], [15]), ([], []), ([16, 17], [16, 17]), ([18], [18]), ([19], [19]), ([20], [20]), ([12, 21], [12, 21]), ([22, 21, 0, 1, 2, 3, 4, 5, 6, 7, 8, 9, 10, 11, 12, 13, 14, 15, 16, 17, 18, 19, 20, 21, 22], [0, 22])])
def spec_RangeText.B16 : List Nat := [0, 0, 0, 0, 12, 28, 0, 124, 252, 508, 1022, 2046, 4095, 0, 0, 24576, 57344, 0, 253952, 516096, 1040384, 2088960, 4194303, 8388607]
theorem spec_RangeText.tab16 : rtab .any (opsOf Tryd.f16 16) = spec_RangeText.T16 := by kernel_rfl
theorem spec_RangeText.bits16 : waitsOk spec_RangeText.T16.2 spec_RangeText.B16 = true := by kernel_rfl
set_option maxHeartbeats 8000000 in
set_option maxRecDepth 100000 in
theorem spec_RangeText.calls (k : Nat) (A0 : Option Addr) (c0 : Nat) (l0 : List (List (S68))) (r : ByteArray) (w : World) (hr0 : Kd.C (Kd.slice 68 k68) w A0 l0.length l0) (hc0 : l0.length ≤ c0) (h : spec_RangeText.f k l0 = some r) :
    Calls Tryd.prog 16 #[.slice A0 l0.length c0] w fun e w' => e = .returned (.string r) ∧ Below w.heap.size w w' := by
  have hu30 := Tryd.underlying30
  have HR0 := Aside0.mk hr0
  have HC0 := Aside0.mk hc0
  clear hr0 hc0
  have HB := Aside0.mk (Below.refl w.heap.size w)
  have H : (spec_RangeText.l0 k l0 (([(⟨#[61]⟩ : ByteArray), (⟨#[60]⟩ : ByteArray), (⟨#[60, 61]⟩ : ByteArray), (⟨#[62]⟩ : ByteArray), (⟨#[62, 61]⟩ : ByteArray)] : List ByteArray)) (⟨#[]⟩ : ByteArray) 0) = some r := h
  clear h
  obtain ⟨y138, hy138⟩ : ∃ y_ : List ByteArray, y_ = (([(⟨#[61]⟩ : ByteArray), (⟨#[60]⟩ : ByteArray), (⟨#[60, 61]⟩ : ByteArray), (⟨#[62]⟩ : ByteArray), (⟨#[62, 61]⟩ : ByteArray)] : List ByteArray)) := ⟨_, rfl⟩
  replace H : (spec_RangeText.l0 k l0 y138 (⟨#[]⟩ : ByteArray) 0) = some r := by first | (rw [hy138]; with_reducible exact H) | (have H2_ := (Option.bind_some _ _).symm.trans H; rw [hy138]; with_reducible exact H2_) | (have H2_ := (Option.bind_some _ _).symm.trans H; with_reducible exact H2_) | with_reducible exact H | (rw [hy138]; exact H) | exact H
  have Ny138 := Aside0.mk hy138
  clear hy138
  have H' := Aside0.mk H
  clear H
  go_enter Tryd.func16, Tryd.ntmps16
  go_wp2_with (first | ((with_reducible refine gate_dst (N := 8) rfl ?_); refine Kd.R_lit Kd.string _ 9 ?hg (N := 8) ?hd (xs := ([(⟨#[61]⟩ : ByteArray), (⟨#[60]⟩ : ByteArray), (⟨#[60, 61]⟩ : ByteArray), (⟨#[62]⟩ : ByteArray), (⟨#[62, 61]⟩ : ByteArray)] : List ByteArray)) (inner := [.string (⟨#[61]⟩ : ByteArray), .string (⟨#[60]⟩ : ByteArray), .string (⟨#[60, 61]⟩ : ByteArray), .string (⟨#[62]⟩ : ByteArray), .string (⟨#[62, 61]⟩ : ByteArray)]) (ok := fun _ => True) (okp := fun _ => True) ?hr ?hp (fun _ hk => hk) trivial (Below.refl _ _) (Nat.le_refl _) (by simp) ?_; (case hd => rfl); (case hg => rfl); (case hr => first | (go_simp; done) | (go_simp; rfl)); (case hp => exact (Reps.one (show Kd.M Kd.string _ _ _ (⟨#[61]⟩ : ByteArray) [.string (⟨#[61]⟩ : ByteArray)] from rfl) (Reps.one (show Kd.M Kd.string _ _ _ (⟨#[60]⟩ : ByteArray) [.string (⟨#[60]⟩ : ByteArray)] from rfl) (Reps.one (show Kd.M Kd.string _ _ _ (⟨#[60, 61]⟩ : ByteArray) [.string (⟨#[60, 61]⟩ : ByteArray)] from rfl) (Reps.one (show Kd.M Kd.string _ _ _ (⟨#[62]⟩ : ByteArray) [.string (⟨#[62]⟩ : ByteArray)] from rfl) (Reps.one (show Kd.M Kd.string _ _ _ (⟨#[62, 61]⟩ : ByteArray) [.string (⟨#[62, 61]⟩ : ByteArray)] from rfl) (Reps.none _ _))))))); intro v139 w2 ho3 hb hg_ hnew_; clear hg_ hnew_; (first | rw [← Ny138.out] at ho3 | (simp only [Int.reduceToNat] at ho3; rw [← Ny138.out] at ho3)); have n0_ := Aside0.mk (Kd.R_lower ho3 (below_size (by repeat (first | (with_reducible first | exact HB.out | apply below_alloc | apply pw_below_drewN | apply below_drew1) | exact HB.out)))); have n1_ := Aside0.mk (below_step (by repeat (first | (with_reducible first | exact HB.out | apply below_alloc | apply pw_below_drewN | apply below_drew1) | exact HB.out)) hb); clear HB; have HO140 := n0_; have HB := n1_; clear n0_ n1_; clear hb ho3))
  go_loopg [4, 5] k (fun kq v4 v5 w' => ∃ (x4_1 : ByteArray) (x5_1 : Int), v4 = .string x4_1 ∧ v5 = .int .i64 x5_1 ∧ Aside0 (spec_RangeText.l0 kq l0 y138 x4_1 x5_1 = some r) ∧ Aside0 (kq ≤ k) ∧ Aside0 (Kd.R Kd.string 9 w' w.heap.size (fun _ => True) v139 y138) ∧ Aside0 (Below w.heap.size w w'))
  case atStart => exact ⟨((⟨#[]⟩ : ByteArray)), (0), (by first | rfl | (simp; done) | (simp [*]; done) | (simp; rw [Bool.eq_iff_iff]; simp; done)), (by first | rfl | (simp; done) | (simp [*]; done) | (simp; rw [Bool.eq_iff_iff]; simp; done)), H', ⟨Nat.le_refl _⟩, ⟨by (with_reducible repeat (first | apply Kd.R_alloc | apply Kd.R_drewN | apply Kd.R_drew)); exact HO140.out⟩, ⟨by repeat (first | (with_reducible first | exact HB.out | apply below_alloc | apply pw_below_drewN | apply below_drew1) | exact HB.out)⟩⟩
  case round =>
    clear H'
    try clear c1
    try clear p2
    obtain ⟨x4_1, x5_1, rfl, rfl, HA, HK1, HO_3, HB⟩ := hrel
    cases gk with
    | zero => exact absurd HA.out (by simp [spec_RangeText.l0])
    | succ k1 =>
      have H := HA.out
      clear HA
      simp only [spec_RangeText.l0] at H
      have HC4 := Aside0.mk H
      clear H
      go_upto_if 12 with (fail)
      go_cut [] (fun wc => ∃ (kq : Nat), Aside0 (spec_RangeText.j1 kq l0 y138 x4_1 x5_1 = some r) ∧ Aside0 (kq ≤ k1) ∧ Aside0 (Kd.R Kd.string 9 wc w.heap.size (fun _ => True) v139 y138) ∧ Aside0 (Below w.heap.size w wc))
      case first =>
        have H := HC4.out
        clear HC4
        by_cases c5 : x5_1 < (l0.length : Int)
        · rw [if_pos c5] at H
          have c5b0 : decide (x5_1 < (l0.length : Int)) = true := decide_eq_true c5
          clear c5
          (first | rw [c5b0] | (simp only [i64_w, i32_w]; rw [c5b0]) | skip)
          have H' := Aside0.mk H
          clear H
          go_wp2
          go_meet
          case rel => exact ⟨_, (by first | exact H' | (subst_vars; exact H')), ⟨by have := HK1.out; first | omega | exact Nat.le_refl _⟩, ⟨by (with_reducible repeat (first | apply Kd.R_alloc | apply Kd.R_drewN | apply Kd.R_drew)); exact HO_3.out⟩, ⟨by repeat (first | (with_reducible first | exact HB.out | apply below_alloc | apply pw_below_drewN | apply below_drew1) | exact HB.out)⟩⟩
        · rw [if_neg c5] at H
          have c5b0 : decide (x5_1 < (l0.length : Int)) = false := decide_eq_false c5
          clear c5
          (first | rw [c5b0] | (simp only [i64_w, i32_w]; rw [c5b0]) | skip)
          obtain rfl := Option.some.inj H
          go_wp2
          go_ret
          exact ⟨by first | rfl | (simp [errW_none, errW_some] <;> rfl) | (simp [*, errW_none, errW_some] <;> rfl), by repeat (first | (with_reducible first | exact HB.out | apply below_alloc | apply pw_below_drewN | apply below_drew1) | exact HB.out)⟩
      case rest =>
        clear HC4
        try clear c1
        try clear p2
        try clear c5
        try clear c5b0
        try clear p2
        obtain ⟨kq, HA, HJ3, HO_3, HB⟩ := hcut
        cases kq with
        | zero => exact absurd HA.out (by simp [spec_RangeText.j1])
        | succ kj3 =>
          have H := HA.out
          clear HA
          simp only [spec_RangeText.j1] at H
          have HC6 := Aside0.mk H
          clear H
          go_upto_if 16 with (fail)
          go_cut [4] (fun v4 wc => ∃ (kq : Nat) (x4_5 : ByteArray), v4 = .string x4_5 ∧ Aside0 (spec_RangeText.j2 kq l0 y138 x4_5 x5_1 = some r) ∧ Aside0 (kq ≤ kj3) ∧ Aside0 (Kd.R Kd.string 9 wc w.heap.size (fun _ => True) v139 y138) ∧ Aside0 (Below w.heap.size w wc))
          case first =>
            have H := HC6.out
            clear HC6
            by_cases c7 : x5_1 > 0
            · rw [if_pos c7] at H
              have c7b0 : decide (0 < x5_1) = true := decide_eq_true c7
              clear c7
              (first | rw [c7b0] | (simp only [i64_w, i32_w]; rw [c7b0]) | skip)
              by_cases c8 : x4_1.size + 4 ≤ 9223372036854775807
              · rw [if_pos c8] at H
                have c8b0 := eq_true c8
                have c8b1 : decide (x4_1.size + 4 ≤ 9223372036854775807) = true := decide_eq_true c8
                try have c8b2 : (9223372036854775807 < x4_1.size + 4) = False := eq_false (Nat.not_lt.2 c8)
                have H' := Aside0.mk H
                clear H
                go_wp2
                go_meet
                case rel => exact ⟨_, (x4_1 ++ (⟨#[32, 124, 124, 32]⟩ : ByteArray)), (by first | rfl | (simp; done) | (simp [*]; done) | (simp; rw [Bool.eq_iff_iff]; simp; done)), (by first | exact H' | (subst_vars; exact H')), ⟨by have := HK1.out; have := HJ3.out; first | omega | exact Nat.le_refl _⟩, ⟨by (with_reducible repeat (first | apply Kd.R_alloc | apply Kd.R_drewN | apply Kd.R_drew)); exact HO_3.out⟩, ⟨by repeat (first | (with_reducible first | exact HB.out | apply below_alloc | apply pw_below_drewN | apply below_drew1) | exact HB.out)⟩⟩
              · rw [if_neg c8] at H
                exact absurd H (by simp)
            · rw [if_neg c7] at H
              have c7b0 : decide (0 < x5_1) = false := decide_eq_false c7
              clear c7
              (first | rw [c7b0] | (simp only [i64_w, i32_w]; rw [c7b0]) | skip)
              have H' := Aside0.mk H
              clear H
              go_wp2
              go_meet
              case rel => exact ⟨_, (x4_1), (by first | rfl | (simp; done) | (simp [*]; done) | (simp; rw [Bool.eq_iff_iff]; simp; done)), (by first | exact H' | (subst_vars; exact H')), ⟨by have := HK1.out; have := HJ3.out; first | omega | exact Nat.le_refl _⟩, ⟨by (with_reducible repeat (first | apply Kd.R_alloc | apply Kd.R_drewN | apply Kd.R_drew)); exact HO_3.out⟩, ⟨by repeat (first | (with_reducible first | exact HB.out | apply below_alloc | apply pw_below_drewN | apply below_drew1) | exact HB.out)⟩⟩
          case rest =>
            clear HC6
            try clear c1
            try clear p2
            try clear c5
            try clear c5b0
            try clear c7
            try clear c7b0
            try clear c8
            try clear c8b0
            try clear c8b1
            try clear c8b2
            try clear p2
            obtain ⟨kq, x4_5, rfl, HA, HJ5, HO_3, HB⟩ := hcut
            cases kq with
            | zero => exact absurd HA.out (by simp [spec_RangeText.j2])
            | succ kj5 =>
              have H := HA.out
              clear HA
              simp only [spec_RangeText.j2] at H
              have H' := Aside0.mk H
              clear H
              go_wp2
              go_loopg [4, 6, 7] kj5 (fun kq v4 v6 v7 w' => ∃ (x4_4 : ByteArray) (x6_4 : Int) (x7_4 : Int), v4 = .string x4_4 ∧ v6 = .int .i64 x6_4 ∧ v7 = .int .i64 x7_4 ∧ Aside0 (spec_RangeText.l1 kq l0 y138 x4_4 x5_1 x6_4 x7_4 = some r) ∧ Aside0 (kq ≤ kj5) ∧ Aside0 (Kd.R Kd.string 9 w' w.heap.size (fun _ => True) v139 y138) ∧ Aside0 (Below w.heap.size w w'))
              case atStart => exact ⟨(x4_5), (0), (0), (by first | rfl | (simp; done) | (simp [*]; done) | (simp; rw [Bool.eq_iff_iff]; simp; done)), (by first | rfl | (simp; done) | (simp [*]; done) | (simp; rw [Bool.eq_iff_iff]; simp; done)), (by first | rfl | (simp; done) | (simp [*]; done) | (simp; rw [Bool.eq_iff_iff]; simp; done)), H', ⟨Nat.le_refl _⟩, ⟨by (with_reducible repeat (first | apply Kd.R_alloc | apply Kd.R_drewN | apply Kd.R_drew)); exact HO_3.out⟩, ⟨by repeat (first | (with_reducible first | exact HB.out | apply below_alloc | apply pw_below_drewN | apply below_drew1) | exact HB.out)⟩⟩
              case round =>
                clear H'
                try clear c1
                try clear p2
                try clear c5
                try clear c5b0
                try clear c7
                try clear c7b0
                try clear c8
                try clear c8b0
                try clear c8b1
                try clear c8b2
                try clear p2
                obtain ⟨x4_4, x6_4, x7_4, rfl, rfl, rfl, HA, HK4, HO_3, HB⟩ := hrel
                cases gk with
                | zero => exact absurd HA.out (by simp [spec_RangeText.l1])
                | succ k4 =>
                  have H := HA.out
                  clear HA
                  simp only [spec_RangeText.l1] at H
                  by_cases c9 : 0 ≤ x5_1
                  · rw [if_pos c9] at H
                    have c9b0 : decide (0 ≤ x5_1) = true := decide_eq_true c9
                    clear c9
                    by_cases c10 : x5_1 < (l0.length : Int)
                    · rw [if_pos c10] at H
                      have c10b0 : decide (x5_1 < (l0.length : Int)) = true := decide_eq_true c10
                      clear c10
                      have HC11 := Aside0.mk H
                      clear H
                      have p141 : 0 ≤ (x5_1 : Int) := of_decide_eq_true (by first | (with_reducible assumption) | assumption)
                      have q141 : x5_1 < (l0.length : Int) := of_decide_eq_true (by first | (with_reducible assumption) | assumption)
                      obtain ⟨ad141, A141_0, c141_0, e141, hx141_0, hl141_0, hi141_0⟩ := at_L9 HR0.out x5_1 p141 q141
                      cases e141
                      replace hx141_0 := (HB.out.cell (World.block_lt_of_cell? w _ hx141_0)).trans hx141_0
                      have HR141_0 := Aside0.mk hi141_0
                      have HC141_0 := Aside0.mk hl141_0
                      clear hi141_0 hl141_0
                      replace p141 := eq_true p141
                      replace q141 := eq_true q141
                      go_upto_if 25 with (fail)
                      go_cut [] (fun wc => ∃ (kq : Nat), Aside0 (spec_RangeText.j4 kq l0 y138 x4_4 x5_1 x6_4 x7_4 = some r) ∧ Aside0 (kq ≤ k4) ∧ Aside0 (Kd.R Kd.string 9 wc w.heap.size (fun _ => True) v139 y138) ∧ Aside0 (Below w.heap.size w wc))
                      case first =>
                        have H := HC11.out
                        clear HC11
                        by_cases c12 : x7_4 < ((rd_L9 l0 x5_1).length : Int)
                        · rw [if_pos c12] at H
                          have c12b0 : decide (x7_4 < ((rd_L9 l0 x5_1).length : Int)) = true := decide_eq_true c12
                          clear c12
                          (first | rw [c12b0] | (simp only [i64_w, i32_w]; rw [c12b0]) | skip)
                          have H' := Aside0.mk H
                          clear H
                          go_wp2
                          go_meet
                          case rel => exact ⟨_, (by first | exact H' | (subst_vars; exact H')), ⟨by have := HK1.out; have := HJ3.out; have := HJ5.out; have := HK4.out; first | omega | exact Nat.le_refl _⟩, ⟨by (with_reducible repeat (first | apply Kd.R_alloc | apply Kd.R_drewN | apply Kd.R_drew)); exact HO_3.out⟩, ⟨by repeat (first | (with_reducible first | exact HB.out | apply below_alloc | apply pw_below_drewN | apply below_drew1) | exact HB.out)⟩⟩
                        · rw [if_neg c12] at H
                          have c12b0 : decide (x7_4 < ((rd_L9 l0 x5_1).length : Int)) = false := decide_eq_false c12
                          clear c12
                          (first | rw [c12b0] | (simp only [i64_w, i32_w]; rw [c12b0]) | skip)
                          have H' := Aside0.mk H
                          clear H
                          go_wp2
                          go_roundg k4
                          case measure => have := HK1.out; have := HJ3.out; have := HJ5.out; have := HK4.out; omega
                          case rel => exact ⟨(x4_4), (wrap64 (x5_1 + 1)), (by first | rfl | (simp; done) | (simp [*]; done) | (simp; rw [Bool.eq_iff_iff]; simp; done)), (by first | rfl | (simp; done) | (simp [*]; done) | (simp; rw [Bool.eq_iff_iff]; simp; done)), H', ⟨by have := HK1.out; have := HJ3.out; have := HJ5.out; have := HK4.out; omega⟩, ⟨by (with_reducible repeat (first | apply Kd.R_alloc | apply Kd.R_drewN | apply Kd.R_drew)); exact HO_3.out⟩, ⟨by repeat (first | (with_reducible first | exact HB.out | apply below_alloc | apply pw_below_drewN | apply below_drew1) | exact HB.out)⟩⟩
                      case rest =>
                        clear HC11
                        try clear c1
                        try clear p1
                        try clear q1
                        try clear hx1
                        try clear p2
                        try clear c5
                        try clear c5b0
                        try clear p6
                        try clear c7
                        try clear c7b0
                        try clear c8
                        try clear c8b0
                        try clear c8b1
                        try clear c8b2
                        try clear c9
                        try clear c9b0
                        try clear c10
                        try clear c10b0
                        try clear c12
                        try clear c12b0
                        try clear hx141_0
                        try clear p141
                        try clear p2
                        try clear q141
                        obtain ⟨kq, HA, HJ10, HO_3, HB⟩ := hcut
                        cases kq with
                        | zero => exact absurd HA.out (by simp [spec_RangeText.j4])
                        | succ kj10 =>
                          have H := HA.out
                          clear HA
                          simp only [spec_RangeText.j4] at H
                          by_cases c13 : 0 ≤ x5_1
                          · rw [if_pos c13] at H
                            have c13b0 : decide (0 ≤ x5_1) = true := decide_eq_true c13
                            clear c13
                            by_cases c14 : x5_1 < (l0.length : Int)
                            · rw [if_pos c14] at H
                              have c14b0 : decide (x5_1 < (l0.length : Int)) = true := decide_eq_true c14
                              clear c14
                              by_cases c15 : 0 ≤ x7_4
                              · rw [if_pos c15] at H
                                have c15b0 : decide (0 ≤ x7_4) = true := decide_eq_true c15
                                clear c15
                                by_cases c16 : x7_4 < ((rd_L9 l0 x5_1).length : Int)
                                · rw [if_pos c16] at H
                                  have c16b0 : decide (x7_4 < ((rd_L9 l0 x5_1).length : Int)) = true := decide_eq_true c16
                                  clear c16
                                  replace H := Option.bind_eq_some_iff.mp H
                                  obtain ⟨t144, A170, H⟩ := H
                                  replace H : (if t144 = true then (if x6_4 > 0 then (if x4_4.size + 1 ≤ 9223372036854775807 then (if 0 ≤ ((rd_T68 (rd_L9 l0 x5_1) x7_4).f0) then (if ((rd_T68 (rd_L9 l0 x5_1) x7_4).f0) < (y138.length : Int) then (if (x4_4 ++ (⟨#[32]⟩ : ByteArray)).size + (rdOf ByteArray.empty y138 ((rd_T68 (rd_L9 l0 x5_1) x7_4).f0)).size ≤ 9223372036854775807 then ((spec_VerText.f kj10 ((rd_T68 (rd_L9 l0 x5_1) x7_4).f1.f0) ((rd_T68 (rd_L9 l0 x5_1) x7_4).f1.f1) ((rd_T68 (rd_L9 l0 x5_1) x7_4).f1.f2) ((rd_T68 (rd_L9 l0 x5_1) x7_4).f1.f3)).bind fun t150 => (if ((x4_4 ++ (⟨#[32]⟩ : ByteArray)) ++ (rdOf ByteArray.empty y138 ((rd_T68 (rd_L9 l0 x5_1) x7_4).f0))).size + t150.size ≤ 9223372036854775807 then (spec_RangeText.l1 kj10 l0 y138 (((x4_4 ++ (⟨#[32]⟩ : ByteArray)) ++ (rdOf ByteArray.empty y138 ((rd_T68 (rd_L9 l0 x5_1) x7_4).f0))) ++ t150) x5_1 (wrap64 (x6_4 + 1)) (wrap64 (x7_4 + 1))) else (none))) else (none)) else (none)) else (none)) else (none)) else (if 0 ≤ ((rd_T68 (rd_L9 l0 x5_1) x7_4).f0) then (if ((rd_T68 (rd_L9 l0 x5_1) x7_4).f0) < (y138.length : Int) then (if x4_4.size + (rdOf ByteArray.empty y138 ((rd_T68 (rd_L9 l0 x5_1) x7_4).f0)).size ≤ 9223372036854775807 then ((spec_VerText.f kj10 ((rd_T68 (rd_L9 l0 x5_1) x7_4).f1.f0) ((rd_T68 (rd_L9 l0 x5_1) x7_4).f1.f1) ((rd_T68 (rd_L9 l0 x5_1) x7_4).f1.f2) ((rd_T68 (rd_L9 l0 x5_1) x7_4).f1.f3)).bind fun t156 => (if (x4_4 ++ (rdOf ByteArray.empty y138 ((rd_T68 (rd_L9 l0 x5_1) x7_4).f0))).size + t156.size ≤ 9223372036854775807 then (spec_RangeText.l1 kj10 l0 y138 ((x4_4 ++ (rdOf ByteArray.empty y138 ((rd_T68 (rd_L9 l0 x5_1) x7_4).f0))) ++ t156) x5_1 (wrap64 (x6_4 + 1)) (wrap64 (x7_4 + 1))) else (none))) else (none)) else (none)) else (none))) else (spec_RangeText.l1 kj10 l0 y138 x4_4 x5_1 x6_4 (wrap64 (x7_4 + 1)))) = some r := H
                                  have A17 := Aside0.mk A170
                                  clear A170
                                  by_cases c18 : t144 = true
                                  · subst c18
                                    have H1 : (if x6_4 > 0 then (if x4_4.size + 1 ≤ 9223372036854775807 then (if 0 ≤ ((rd_T68 (rd_L9 l0 x5_1) x7_4).f0) then (if ((rd_T68 (rd_L9 l0 x5_1) x7_4).f0) < (y138.length : Int) then (if (x4_4 ++ (⟨#[32]⟩ : ByteArray)).size + (rdOf ByteArray.empty y138 ((rd_T68 (rd_L9 l0 x5_1) x7_4).f0)).size ≤ 9223372036854775807 then ((spec_VerText.f kj10 ((rd_T68 (rd_L9 l0 x5_1) x7_4).f1.f0) ((rd_T68 (rd_L9 l0 x5_1) x7_4).f1.f1) ((rd_T68 (rd_L9 l0 x5_1) x7_4).f1.f2) ((rd_T68 (rd_L9 l0 x5_1) x7_4).f1.f3)).bind fun t150 => (if ((x4_4 ++ (⟨#[32]⟩ : ByteArray)) ++ (rdOf ByteArray.empty y138 ((rd_T68 (rd_L9 l0 x5_1) x7_4).f0))).size + t150.size ≤ 9223372036854775807 then (spec_RangeText.l1 kj10 l0 y138 (((x4_4 ++ (⟨#[32]⟩ : ByteArray)) ++ (rdOf ByteArray.empty y138 ((rd_T68 (rd_L9 l0 x5_1) x7_4).f0))) ++ t150) x5_1 (wrap64 (x6_4 + 1)) (wrap64 (x7_4 + 1))) else (none))) else (none)) else (none)) else (none)) else (none)) else (if 0 ≤ ((rd_T68 (rd_L9 l0 x5_1) x7_4).f0) then (if ((rd_T68 (rd_L9 l0 x5_1) x7_4).f0) < (y138.length : Int) then (if x4_4.size + (rdOf ByteArray.empty y138 ((rd_T68 (rd_L9 l0 x5_1) x7_4).f0)).size ≤ 9223372036854775807 then ((spec_VerText.f kj10 ((rd_T68 (rd_L9 l0 x5_1) x7_4).f1.f0) ((rd_T68 (rd_L9 l0 x5_1) x7_4).f1.f1) ((rd_T68 (rd_L9 l0 x5_1) x7_4).f1.f2) ((rd_T68 (rd_L9 l0 x5_1) x7_4).f1.f3)).bind fun t156 => (if (x4_4 ++ (rdOf ByteArray.empty y138 ((rd_T68 (rd_L9 l0 x5_1) x7_4).f0))).size + t156.size ≤ 9223372036854775807 then (spec_RangeText.l1 kj10 l0 y138 ((x4_4 ++ (rdOf ByteArray.empty y138 ((rd_T68 (rd_L9 l0 x5_1) x7_4).f0))) ++ t156) x5_1 (wrap64 (x6_4 + 1)) (wrap64 (x7_4 + 1))) else (none))) else (none)) else (none)) else (none))) = some r := by rw [if_pos rfl] at H; exact H
                                    clear H
                                    have H := H1
                                    clear H1
                                    by_cases c19 : x6_4 > 0
                                    · rw [if_pos c19] at H
                                      have c19b0 : decide (0 < x6_4) = true := decide_eq_true c19
                                      clear c19
                                      by_cases c20 : x4_4.size + 1 ≤ 9223372036854775807
                                      · rw [if_pos c20] at H
                                        have c20b0 := eq_true c20
                                        have c20b1 : decide (x4_4.size + 1 ≤ 9223372036854775807) = true := decide_eq_true c20
                                        try have c20b2 : (9223372036854775807 < x4_4.size + 1) = False := eq_false (Nat.not_lt.2 c20)
                                        by_cases c21 : 0 ≤ ((rd_T68 (rd_L9 l0 x5_1) x7_4).f0)
                                        · rw [if_pos c21] at H
                                          have c21b0 : decide (0 ≤ ((rd_T68 (rd_L9 l0 x5_1) x7_4).f0)) = true := decide_eq_true c21
                                          clear c21
                                          by_cases c22 : ((rd_T68 (rd_L9 l0 x5_1) x7_4).f0) < (y138.length : Int)
                                          · rw [if_pos c22] at H
                                            have c22b0 : decide (((rd_T68 (rd_L9 l0 x5_1) x7_4).f0) < (y138.length : Int)) = true := decide_eq_true c22
                                            clear c22
                                            by_cases c23 : (x4_4 ++ (⟨#[32]⟩ : ByteArray)).size + (rdOf ByteArray.empty y138 ((rd_T68 (rd_L9 l0 x5_1) x7_4).f0)).size ≤ 9223372036854775807
                                            · rw [if_pos c23] at H
                                              have c23b0 := eq_true c23
                                              have c23b1 : decide ((x4_4 ++ (⟨#[32]⟩ : ByteArray)).size + (rdOf ByteArray.empty y138 ((rd_T68 (rd_L9 l0 x5_1) x7_4).f0)).size ≤ 9223372036854775807) = true := decide_eq_true c23
                                              try have c23b2 : (9223372036854775807 < (x4_4 ++ (⟨#[32]⟩ : ByteArray)).size + (rdOf ByteArray.empty y138 ((rd_T68 (rd_L9 l0 x5_1) x7_4).f0)).size) = False := eq_false (Nat.not_lt.2 c23)
                                              try have c23b3 : (9223372036854775807 < x4_4.size + 1 + (rdOf ByteArray.empty y138 ((rd_T68 (rd_L9 l0 x5_1) x7_4).f0)).size) = False := (by have z_ := c23; (try simp only [ByteArray.size_append] at z_); exact eq_false (Nat.not_lt.2 z_))
                                              replace H := Option.bind_eq_some_iff.mp H
                                              obtain ⟨t150, A240, H⟩ := H
                                              replace H : (if ((x4_4 ++ (⟨#[32]⟩ : ByteArray)) ++ (rdOf ByteArray.empty y138 ((rd_T68 (rd_L9 l0 x5_1) x7_4).f0))).size + t150.size ≤ 9223372036854775807 then (spec_RangeText.l1 kj10 l0 y138 (((x4_4 ++ (⟨#[32]⟩ : ByteArray)) ++ (rdOf ByteArray.empty y138 ((rd_T68 (rd_L9 l0 x5_1) x7_4).f0))) ++ t150) x5_1 (wrap64 (x6_4 + 1)) (wrap64 (x7_4 + 1))) else (none)) = some r := H
                                              have A24 := Aside0.mk A240
                                              clear A240
                                              by_cases c25 : ((x4_4 ++ (⟨#[32]⟩ : ByteArray)) ++ (rdOf ByteArray.empty y138 ((rd_T68 (rd_L9 l0 x5_1) x7_4).f0))).size + t150.size ≤ 9223372036854775807
                                              · rw [if_pos c25] at H
                                                have c25b0 := eq_true c25
                                                have c25b1 : decide (((x4_4 ++ (⟨#[32]⟩ : ByteArray)) ++ (rdOf ByteArray.empty y138 ((rd_T68 (rd_L9 l0 x5_1) x7_4).f0))).size + t150.size ≤ 9223372036854775807) = true := decide_eq_true c25
                                                try have c25b2 : (9223372036854775807 < ((x4_4 ++ (⟨#[32]⟩ : ByteArray)) ++ (rdOf ByteArray.empty y138 ((rd_T68 (rd_L9 l0 x5_1) x7_4).f0))).size + t150.size) = False := eq_false (Nat.not_lt.2 c25)
                                                try have c25b3 : (9223372036854775807 < x4_4.size + 1 + (rdOf ByteArray.empty y138 ((rd_T68 (rd_L9 l0 x5_1) x7_4).f0)).size + t150.size) = False := (by have z_ := c25; (try simp only [ByteArray.size_append] at z_); exact eq_false (Nat.not_lt.2 z_))
                                                have H' := Aside0.mk H
                                                clear H
                                                have p142 : 0 ≤ (x5_1 : Int) := of_decide_eq_true (by first | (with_reducible assumption) | assumption)
                                                have q142 : x5_1 < (l0.length : Int) := of_decide_eq_true (by first | (with_reducible assumption) | assumption)
                                                obtain ⟨ad142, A142_0, c142_0, e142, hx142_0, hl142_0, hi142_0⟩ := at_L9 HR0.out x5_1 p142 q142
                                                obtain rfl : ad141 = ad142 := (by injection e142)
                                                replace hx142_0 := (HB.out.cell (World.block_lt_of_cell? w _ hx142_0)).trans hx142_0
                                                have HR142_0 := Aside0.mk hi142_0
                                                have HC142_0 := Aside0.mk hl142_0
                                                clear hi142_0 hl142_0
                                                replace p142 := eq_true p142
                                                replace q142 := eq_true q142
                                                have p143 : 0 ≤ (x7_4 : Int) := of_decide_eq_true (by first | (with_reducible assumption) | assumption)
                                                have q143 : x7_4 < ((rd_L9 l0 x5_1).length : Int) := of_decide_eq_true (by first | (with_reducible assumption) | assumption)
                                                obtain ⟨ad143, A143_4, c143_4, e143, hx143_0, hx143_1, hx143_2, hx143_3, hx143_4, hl143_4, hi143_4⟩ := at_T68 HR142_0.out x7_4 p143 q143
                                                cases e143
                                                replace hx143_0 := (HB.out.cell (World.block_lt_of_cell? w _ hx143_0)).trans hx143_0
                                                replace hx143_1 := (HB.out.cell (World.block_lt_of_cell? w _ hx143_1)).trans hx143_1
                                                replace hx143_2 := (HB.out.cell (World.block_lt_of_cell? w _ hx143_2)).trans hx143_2
                                                replace hx143_3 := (HB.out.cell (World.block_lt_of_cell? w _ hx143_3)).trans hx143_3
                                                replace hx143_4 := (HB.out.cell (World.block_lt_of_cell? w _ hx143_4)).trans hx143_4
                                                have HR143_4 := Aside0.mk hi143_4
                                                have HC143_4 := Aside0.mk hl143_4
                                                clear hi143_4 hl143_4
                                                replace p143 := eq_true p143
                                                replace q143 := eq_true q143
                                                try go_wp2_with (first | ((with_reducible refine gate_callee (f := 30) rfl ?_); refine goesL_ (some 36) rfl rfl Tryd.func30 (by kernel_rfl) rfl #[.int .i64 ((rd_T68 (rd_L9 l0 x5_1) x7_4).f0), .int .i64 0, .int .i64 4] rfl (by (try simp only [List.map_toArray, List.map_cons, List.map_nil]); first | done | rfl | (simp only [List.length_drop, List.length_take]; rfl)) ?_; (with_reducible refine (spec_l1In.calls ((rd_T68 (rd_L9 l0 x5_1) x7_4).f0) 0 4 true _ A17.out).mono ?_); rintro e w' ⟨rfl, ⟨nd, rfl⟩⟩; refine ⟨_, rfl, ?_⟩))
                                                (try (rw [drewN_self wc]; generalize hq_ : World.drewN wc _ = wc; have n0_ : Aside0 (Kd.R Kd.string 9 wc w.heap.size (fun _ => True) v139 y138) := ⟨by rw [← hq_]; exact (by (with_reducible repeat (first | apply Kd.R_alloc | apply Kd.R_drewN | apply Kd.R_drew)); exact HO_3.out)⟩; have n1_ : Aside0 (Below w.heap.size w wc) := ⟨by rw [← hq_]; exact (by repeat (first | (with_reducible first | exact HB.out | apply below_alloc | apply pw_below_drewN | apply below_drew1) | exact HB.out))⟩; clear HO_3 HB hq_; have HO_3 := n0_; have HB := n1_; clear n0_ n1_))
                                                have n0_ := Aside0.mk (Kd.R_drew HO_3.out)
                                                have n1_ := Aside0.mk (below_drew1 HB.out)
                                                clear HO_3
                                                clear HB
                                                have HO_3 := n0_
                                                have HB := n1_
                                                clear n0_ n1_
                                                have p145 : 0 ≤ (x5_1 : Int) := of_decide_eq_true (by first | (with_reducible assumption) | assumption)
                                                have q145 : x5_1 < (l0.length : Int) := of_decide_eq_true (by first | (with_reducible assumption) | assumption)
                                                obtain ⟨ad145, A145_0, c145_0, e145, hx145_0, hl145_0, hi145_0⟩ := at_L9 HR0.out x5_1 p145 q145
                                                have hw145_0 := hx145_0
                                                obtain rfl : ad141 = ad145 := (by injection e145)
                                                replace hx145_0 := (HB.out.cell (World.block_lt_of_cell? w _ hx145_0)).trans hx145_0
                                                have HR145_0 := Aside0.mk hi145_0
                                                have HC145_0 := Aside0.mk hl145_0
                                                clear hi145_0 hl145_0
                                                replace p145 := eq_true p145
                                                replace q145 := eq_true q145
                                                have p146 : 0 ≤ (x7_4 : Int) := of_decide_eq_true (by first | (with_reducible assumption) | assumption)
                                                have q146 : x7_4 < ((rd_L9 l0 x5_1).length : Int) := of_decide_eq_true (by first | (with_reducible assumption) | assumption)
                                                obtain ⟨ad146, A146_4, c146_4, e146, hx146_0, hx146_1, hx146_2, hx146_3, hx146_4, hl146_4, hi146_4⟩ := at_T68 HR145_0.out x7_4 p146 q146
                                                have hw146_4 := hx146_4
                                                have hw146_3 := hx146_3
                                                have hw146_2 := hx146_2
                                                have hw146_1 := hx146_1
                                                have hw146_0 := hx146_0
                                                cases e146
                                                replace hx146_0 := (HB.out.cell (World.block_lt_of_cell? w _ hx146_0)).trans hx146_0
                                                replace hx146_1 := (HB.out.cell (World.block_lt_of_cell? w _ hx146_1)).trans hx146_1
                                                replace hx146_2 := (HB.out.cell (World.block_lt_of_cell? w _ hx146_2)).trans hx146_2
                                                replace hx146_3 := (HB.out.cell (World.block_lt_of_cell? w _ hx146_3)).trans hx146_3
                                                replace hx146_4 := (HB.out.cell (World.block_lt_of_cell? w _ hx146_4)).trans hx146_4
                                                have HR146_4 := Aside0.mk hi146_4
                                                have HC146_4 := Aside0.mk hl146_4
                                                clear hi146_4 hl146_4
                                                replace p146 := eq_true p146
                                                replace q146 := eq_true q146
                                                obtain ⟨Ao27, co27, eo27⟩ := Kd.R_slice HO_3.out
                                                (first | subst eo27 | (injection eo27 with f1_ f2_ f3_; have f4_ := f1_.symm; have f5_ := f3_.symm; clear f1_ f2_ f3_; subst f4_; subst f5_))
                                                have p147 : 0 ≤ (((rd_T68 (rd_L9 l0 x5_1) x7_4).f0) : Int) := of_decide_eq_true (by first | (with_reducible assumption) | assumption)
                                                have q147 : ((rd_T68 (rd_L9 l0 x5_1) x7_4).f0) < (y138.length : Int) := of_decide_eq_true (by first | (with_reducible assumption) | assumption)
                                                obtain ⟨ad147, e147, hx147_0⟩ := Kd.at_string (Kd.R_reads' HO_3.out).2.2 ((rd_T68 (rd_L9 l0 x5_1) x7_4).f0) p147 q147
                                                cases e147
                                                replace p147 := eq_true p147
                                                replace q147 := eq_true q147
                                                have p148 : 0 ≤ (x5_1 : Int) := of_decide_eq_true (by first | (with_reducible assumption) | assumption)
                                                have q148 : x5_1 < (l0.length : Int) := of_decide_eq_true (by first | (with_reducible assumption) | assumption)
                                                obtain ⟨ad148, A148_0, c148_0, e148, hx148_0, hl148_0, hi148_0⟩ := at_L9 HR0.out x5_1 p148 q148
                                                have hw148_0 := hx148_0
                                                obtain rfl : ad141 = ad148 := (by injection e148)
                                                replace hx148_0 := (HB.out.cell (World.block_lt_of_cell? w _ hx148_0)).trans hx148_0
                                                have HR148_0 := Aside0.mk hi148_0
                                                have HC148_0 := Aside0.mk hl148_0
                                                clear hi148_0 hl148_0
                                                replace p148 := eq_true p148
                                                replace q148 := eq_true q148
                                                have ea_ := Option.some.inj (hx145_0.symm.trans hx148_0)
                                                injection ea_ with ea_ en_ ec_
                                                subst ea_
                                                subst ec_
                                                clear en_
                                                have p149 : 0 ≤ (x7_4 : Int) := of_decide_eq_true (by first | (with_reducible assumption) | assumption)
                                                have q149 : x7_4 < ((rd_L9 l0 x5_1).length : Int) := of_decide_eq_true (by first | (with_reducible assumption) | assumption)
                                                obtain ⟨ad149, A149_4, c149_4, e149, hx149_0, hx149_1, hx149_2, hx149_3, hx149_4, hl149_4, hi149_4⟩ := at_T68 HR148_0.out x7_4 p149 q149
                                                have hw149_4 := hx149_4
                                                have hw149_3 := hx149_3
                                                have hw149_2 := hx149_2
                                                have hw149_1 := hx149_1
                                                have hw149_0 := hx149_0
                                                cases e149
                                                replace hx149_0 := (HB.out.cell (World.block_lt_of_cell? w _ hx149_0)).trans hx149_0
                                                replace hx149_1 := (HB.out.cell (World.block_lt_of_cell? w _ hx149_1)).trans hx149_1
                                                replace hx149_2 := (HB.out.cell (World.block_lt_of_cell? w _ hx149_2)).trans hx149_2
                                                replace hx149_3 := (HB.out.cell (World.block_lt_of_cell? w _ hx149_3)).trans hx149_3
                                                replace hx149_4 := (HB.out.cell (World.block_lt_of_cell? w _ hx149_4)).trans hx149_4
                                                have HR149_4 := Aside0.mk hi149_4
                                                have HC149_4 := Aside0.mk hl149_4
                                                clear hi149_4 hl149_4
                                                have ea_ := Option.some.inj (hx146_4.symm.trans hx149_4)
                                                injection ea_ with ea_ en_ ec_
                                                subst ea_
                                                subst ec_
                                                clear en_
                                                replace p149 := eq_true p149
                                                replace q149 := eq_true q149
                                                refine start_ (n := 24) (S := fun w' => w'.cell? (ad141.add (x5_1).toNat) = some (.slice (some ad146) (rd_L9 l0 x5_1).length c145_0) ∧ w'.cell? (ad146.add ((x7_4).toNat * 5)) = some (.int .i64 ((rd_T68 (rd_L9 l0 x5_1) x7_4).f0)) ∧ w'.cell? ⟨(ad146.add ((x7_4).toNat * 5)).block, (ad146.add ((x7_4).toNat * 5)).off + 1, none⟩ = some (.int .i64 ((rd_T68 (rd_L9 l0 x5_1) x7_4).f1.f0)) ∧ w'.cell? ⟨(ad146.add ((x7_4).toNat * 5)).block, (ad146.add ((x7_4).toNat * 5)).off + 2, none⟩ = some (.int .i64 ((rd_T68 (rd_L9 l0 x5_1) x7_4).f1.f1)) ∧ w'.cell? ⟨(ad146.add ((x7_4).toNat * 5)).block, (ad146.add ((x7_4).toNat * 5)).off + 3, none⟩ = some (.int .i64 ((rd_T68 (rd_L9 l0 x5_1) x7_4).f1.f2)) ∧ w'.cell? ⟨(ad146.add ((x7_4).toNat * 5)).block, (ad146.add ((x7_4).toNat * 5)).off + 4, none⟩ = some (.slice A146_4 ((rd_T68 (rd_L9 l0 x5_1) x7_4).f1.f3).length c146_4) ∧ w'.cell? (ad147.add (((rd_T68 (rd_L9 l0 x5_1) x7_4).f0)).toNat) = some (.string (rdOf ByteArray.empty y138 ((rd_T68 (rd_L9 l0 x5_1) x7_4).f0))) ∧ w'.cell? (ad141.add (x5_1).toNat) = some (.slice (some ad146) (rd_L9 l0 x5_1).length c145_0) ∧ w'.cell? (ad146.add ((x7_4).toNat * 5)) = some (.int .i64 ((rd_T68 (rd_L9 l0 x5_1) x7_4).f0)) ∧ w'.cell? ⟨(ad146.add ((x7_4).toNat * 5)).block, (ad146.add ((x7_4).toNat * 5)).off + 1, none⟩ = some (.int .i64 ((rd_T68 (rd_L9 l0 x5_1) x7_4).f1.f0)) ∧ w'.cell? ⟨(ad146.add ((x7_4).toNat * 5)).block, (ad146.add ((x7_4).toNat * 5)).off + 2, none⟩ = some (.int .i64 ((rd_T68 (rd_L9 l0 x5_1) x7_4).f1.f1)) ∧ w'.cell? ⟨(ad146.add ((x7_4).toNat * 5)).block, (ad146.add ((x7_4).toNat * 5)).off + 3, none⟩ = some (.int .i64 ((rd_T68 (rd_L9 l0 x5_1) x7_4).f1.f2)) ∧ w'.cell? ⟨(ad146.add ((x7_4).toNat * 5)).block, (ad146.add ((x7_4).toNat * 5)).off + 4, none⟩ = some (.slice A146_4 ((rd_T68 (rd_L9 l0 x5_1) x7_4).f1.f3).length c146_4)) (ds := []) #[false, false, false, false, false, false, false, false, false, false, false, false, false, false, false, false, false, false, false, false, false, false, false, false] (by kernel_rfl) rfl rfl ⟨((HB.out.cell (World.block_lt_of_cell? w _ hw145_0)).trans hw145_0), ((HB.out.cell (World.block_lt_of_cell? w _ hw146_0)).trans hw146_0), ((HB.out.cell (World.block_lt_of_cell? w _ hw146_1)).trans hw146_1), ((HB.out.cell (World.block_lt_of_cell? w _ hw146_2)).trans hw146_2), ((HB.out.cell (World.block_lt_of_cell? w _ hw146_3)).trans hw146_3), ((HB.out.cell (World.block_lt_of_cell? w _ hw146_4)).trans hw146_4), hx147_0, ((HB.out.cell (World.block_lt_of_cell? w _ hw148_0)).trans hw148_0), ((HB.out.cell (World.block_lt_of_cell? w _ hw149_0)).trans hw149_0), ((HB.out.cell (World.block_lt_of_cell? w _ hw149_1)).trans hw149_1), ((HB.out.cell (World.block_lt_of_cell? w _ hw149_2)).trans hw149_2), ((HB.out.cell (World.block_lt_of_cell? w _ hw149_3)).trans hw149_3), ((HB.out.cell (World.block_lt_of_cell? w _ hw149_4)).trans hw149_4)⟩ (fun hHeld => ?_); refine with_tabW spec_RangeText.tab16 spec_RangeText.bits16 (fun HT_ HW_ => ?_)
                                                generalize wc.drew = w26 at HO_3 HB HR145_0 HR146_4 HR148_0 HR149_4 hx145_0 hx146_0 hx146_1 hx146_2 hx146_3 hx146_4 hx147_0 hx148_0 hx149_0 hx149_1 hx149_2 hx149_3 hx149_4 hHeld ⊢
                                                refine pure_ (i := 0) (N := some 44) (v := ?_) (a' := ?_) #[true, false, false, false, false, false, false, false, false, false, false, false, false, false, false, false, false, false, false, false, false, false, false, false] rfl rfl (any_of HT_.out (by kernel_rfl)) (fun _ _ _ h => h) (Or.inl ⟨by rfl, ?_⟩) ?_ ?_
                                                rotate_left
                                                · intro w'
                                                  go_simp
                                                  with_reducible rfl
                                                rotate_left
                                                · simp only [Act.put, List.setIfInBounds_toArray, List.set_cons_zero, List.set_cons_succ, i64_w, i32_w]
                                                  rfl
                                                refine pure_ (i := 1) (N := some 45) (v := ?_) (a' := ?_) #[true, true, false, false, false, false, false, false, false, false, false, false, false, false, false, false, false, false, false, false, false, false, false, false] rfl rfl (any_of HT_.out (by kernel_rfl)) (fun _ _ _ h => h) (Or.inl ⟨by rfl, ?_⟩) ?_ ?_
                                                rotate_left
                                                · intro w'
                                                  go_simp
                                                  with_reducible rfl
                                                rotate_left
                                                · simp only [Act.put, List.setIfInBounds_toArray, List.set_cons_zero, List.set_cons_succ, i64_w, i32_w]
                                                  rfl
                                                refine pure_ (i := 2) (N := some 46) (v := ?_) (a' := ?_) #[true, true, true, false, false, false, false, false, false, false, false, false, false, false, false, false, false, false, false, false, false, false, false, false] rfl rfl (any_of HT_.out (by kernel_rfl)) (fun _ _ _ h => h) (Or.inl ⟨by rfl, ?_⟩) ?_ ?_
                                                rotate_left
                                                · intro w'
                                                  go_simp
                                                  with_reducible rfl
                                                rotate_left
                                                · simp only [Act.put, List.setIfInBounds_toArray, List.set_cons_zero, List.set_cons_succ, i64_w, i32_w]
                                                  rfl
                                                refine pure_ (i := 3) (N := some 47) (v := ?_) (a' := ?_) #[true, true, true, true, false, false, false, false, false, false, false, false, false, false, false, false, false, false, false, false, false, false, false, false] rfl rfl (any_of HT_.out (by kernel_rfl)) (fun _ _ _ h => h) (Or.inl ⟨by rfl, ?_⟩) ?_ ?_
                                                rotate_left
                                                · intro w'
                                                  go_simp
                                                  with_reducible rfl
                                                rotate_left
                                                · simp only [Act.put, List.setIfInBounds_toArray, List.set_cons_zero, List.set_cons_succ, i64_w, i32_w]
                                                  rfl
                                                refine pure_ (i := 4) (N := some 48) (v := ?_) (a' := ?_) #[true, true, true, true, true, false, false, false, false, false, false, false, false, false, false, false, false, false, false, false, false, false, false, false] rfl rfl (any_of HT_.out (by kernel_rfl)) (fun _ _ _ h => h) (Or.inl ⟨by rfl, ?_⟩) ?_ ?_
                                                rotate_left
                                                · intro w'
                                                  go_simp
                                                  with_reducible rfl
                                                rotate_left
                                                · simp only [Act.put, List.setIfInBounds_toArray, List.set_cons_zero, List.set_cons_succ, i64_w, i32_w]
                                                  rfl
                                                refine pure_ (i := 6) (N := some 50) (v := ?_) (a' := ?_) #[true, true, true, true, true, false, true, false, false, false, false, false, false, false, false, false, false, false, false, false, false, false, false, false] rfl rfl (any_of HT_.out (by kernel_rfl)) (fun _ _ _ h => h) (Or.inl ⟨by rfl, ?_⟩) ?_ ?_
                                                rotate_left
                                                · intro w'
                                                  go_simp
                                                  with_reducible rfl
                                                rotate_left
                                                · simp only [Act.put, List.setIfInBounds_toArray, List.set_cons_zero, List.set_cons_succ, i64_w, i32_w]
                                                  rfl
                                                refine pure_ (i := 13) (N := some 57) (v := ?_) (a' := ?_) #[true, true, true, true, true, false, true, false, false, false, false, false, false, true, false, false, false, false, false, false, false, false, false, false] rfl rfl (any_of HT_.out (by kernel_rfl)) (fun _ _ _ h => h) (Or.inl ⟨by rfl, ?_⟩) ?_ ?_
                                                rotate_left
                                                · intro w'
                                                  go_simp
                                                  with_reducible rfl
                                                rotate_left
                                                · simp only [Act.put, List.setIfInBounds_toArray, List.set_cons_zero, List.set_cons_succ, i64_w, i32_w]
                                                  rfl
                                                refine pure_ (i := 14) (N := some 58) (v := ?_) (a' := ?_) #[true, true, true, true, true, false, true, false, false, false, false, false, false, true, true, false, false, false, false, false, false, false, false, false] rfl rfl (any_of HT_.out (by kernel_rfl)) (fun _ _ _ h => h) (Or.inl ⟨by rfl, ?_⟩) ?_ ?_
                                                rotate_left
                                                · intro w'
                                                  go_simp
                                                  with_reducible rfl
                                                rotate_left
                                                · simp only [Act.put, List.setIfInBounds_toArray, List.set_cons_zero, List.set_cons_succ, i64_w, i32_w]
                                                  rfl
                                                refine pure_ (i := 15) (N := some 59) (v := ?_) (a' := ?_) #[true, true, true, true, true, false, true, false, false, false, false, false, false, true, true, true, false, false, false, false, false, false, false, false] rfl rfl (any_of HT_.out (by kernel_rfl)) (fun _ _ _ h => h) (Or.inl ⟨by rfl, ?_⟩) ?_ ?_
                                                rotate_left
                                                · intro w'
                                                  go_simp
                                                  with_reducible rfl
                                                rotate_left
                                                · simp only [Act.put, List.setIfInBounds_toArray, List.set_cons_zero, List.set_cons_succ, i64_w, i32_w]
                                                  rfl
                                                refine pure_ (i := 17) (N := some 61) (v := ?_) (a' := ?_) #[true, true, true, true, true, false, true, false, false, false, false, false, false, true, true, true, false, true, false, false, false, false, false, false] rfl rfl (any_of HT_.out (by kernel_rfl)) (fun _ _ _ h => h) (Or.inl ⟨by rfl, ?_⟩) ?_ ?_
                                                rotate_left
                                                · intro w'
                                                  go_simp
                                                  with_reducible rfl
                                                rotate_left
                                                · simp only [Act.put, List.setIfInBounds_toArray, List.set_cons_zero, List.set_cons_succ, i64_w, i32_w]
                                                  rfl
                                                refine take_ (i := 5) (N := some 49) (v := ?_) (a' := ?_) #[true, true, true, true, true, true, true, false, false, false, false, false, false, true, true, true, false, true, false, false, false, false, false, false] rfl rfl (take_ofW HT_.out HW_.out (by kernel_rfl)) (fun _ _ _ h => h) (Or.inl ⟨by rfl, ?_⟩) hHeld ?_ ?_
                                                rotate_left
                                                · rintro w' ⟨s0, s1, s2, s3, s4, s5, s6, s7, s8, s9, s10, s11, s12⟩
                                                  go_simp
                                                  with_reducible rfl
                                                rotate_left
                                                · simp only [Act.put, List.setIfInBounds_toArray, List.set_cons_zero, List.set_cons_succ, i64_w, i32_w]
                                                  rfl
                                                refine pure_ (i := 7) (N := some 51) (v := ?_) (a' := ?_) #[true, true, true, true, true, true, true, true, false, false, false, false, false, true, true, true, false, true, false, false, false, false, false, false] rfl rfl (any_of HT_.out (by kernel_rfl)) (fun _ _ _ h => h) (Or.inl ⟨by rfl, ?_⟩) ?_ ?_
                                                rotate_left
                                                · intro w'
                                                  go_simp
                                                  with_reducible rfl
                                                rotate_left
                                                · simp only [Act.put, List.setIfInBounds_toArray, List.set_cons_zero, List.set_cons_succ, i64_w, i32_w]
                                                  rfl
                                                refine pure_ (i := 8) (N := some 52) (v := ?_) (a' := ?_) #[true, true, true, true, true, true, true, true, true, false, false, false, false, true, true, true, false, true, false, false, false, false, false, false] rfl rfl (any_of HT_.out (by kernel_rfl)) (fun _ _ _ h => h) (Or.inl ⟨by rfl, ?_⟩) ?_ ?_
                                                rotate_left
                                                · intro w'
                                                  go_simp
                                                  with_reducible rfl
                                                rotate_left
                                                · simp only [Act.put, List.setIfInBounds_toArray, List.set_cons_zero, List.set_cons_succ, i64_w, i32_w]
                                                  rfl
                                                refine take_ (i := 9) (N := some 53) (v := ?_) (a' := ?_) #[true, true, true, true, true, true, true, true, true, true, false, false, false, true, true, true, false, true, false, false, false, false, false, false] rfl rfl (take_ofW HT_.out HW_.out (by kernel_rfl)) (fun _ _ _ h => h) (Or.inl ⟨by rfl, ?_⟩) hHeld ?_ ?_
                                                rotate_left
                                                · rintro w' ⟨s0, s1, s2, s3, s4, s5, s6, s7, s8, s9, s10, s11, s12⟩
                                                  go_simp
                                                  with_reducible rfl
                                                rotate_left
                                                · simp only [Act.put, List.setIfInBounds_toArray, List.set_cons_zero, List.set_cons_succ, i64_w, i32_w]
                                                  rfl
                                                refine pure_ (i := 10) (N := some 54) (v := ?_) (a' := ?_) #[true, true, true, true, true, true, true, true, true, true, true, false, false, true, true, true, false, true, false, false, false, false, false, false] rfl rfl (any_of HT_.out (by kernel_rfl)) (fun _ _ _ h => h) (Or.inl ⟨by rfl, ?_⟩) ?_ ?_
                                                rotate_left
                                                · intro w'
                                                  go_simp
                                                  with_reducible rfl
                                                rotate_left
                                                · simp only [Act.put, List.setIfInBounds_toArray, List.set_cons_zero, List.set_cons_succ, i64_w, i32_w]
                                                  rfl
                                                refine take_ (i := 11) (N := some 55) (v := ?_) (a' := ?_) #[true, true, true, true, true, true, true, true, true, true, true, true, false, true, true, true, false, true, false, false, false, false, false, false] rfl rfl (take_ofW HT_.out HW_.out (by kernel_rfl)) (fun _ _ _ h => h) (Or.inl ⟨by rfl, ?_⟩) hHeld ?_ ?_
                                                rotate_left
                                                · rintro w' ⟨s0, s1, s2, s3, s4, s5, s6, s7, s8, s9, s10, s11, s12⟩
                                                  go_simp
                                                  with_reducible rfl
                                                rotate_left
                                                · simp only [Act.put, List.setIfInBounds_toArray, List.set_cons_zero, List.set_cons_succ, i64_w, i32_w]
                                                  rfl
                                                refine pure_ (i := 12) (N := some 56) (v := ?_) (a' := ?_) #[true, true, true, true, true, true, true, true, true, true, true, true, true, true, true, true, false, true, false, false, false, false, false, false] rfl rfl (any_of HT_.out (by kernel_rfl)) (fun _ _ _ h => h) (Or.inl ⟨by rfl, ?_⟩) ?_ ?_
                                                rotate_left
                                                · intro w'
                                                  go_simp
                                                  with_reducible rfl
                                                rotate_left
                                                · simp only [Act.put, List.setIfInBounds_toArray, List.set_cons_zero, List.set_cons_succ, i64_w, i32_w]
                                                  rfl
                                                refine take_ (i := 16) (N := some 60) (v := ?_) (a' := ?_) #[true, true, true, true, true, true, true, true, true, true, true, true, true, true, true, true, true, true, false, false, false, false, false, false] rfl rfl (take_ofW HT_.out HW_.out (by kernel_rfl)) (fun _ _ _ h => h) (Or.inl ⟨by rfl, ?_⟩) hHeld ?_ ?_
                                                rotate_left
                                                · rintro w' ⟨s0, s1, s2, s3, s4, s5, s6, s7, s8, s9, s10, s11, s12⟩
                                                  go_simp
                                                  with_reducible rfl
                                                rotate_left
                                                · simp only [Act.put, List.setIfInBounds_toArray, List.set_cons_zero, List.set_cons_succ, i64_w, i32_w]
                                                  rfl
                                                refine pure_ (i := 18) (N := some 62) (v := ?_) (a' := ?_) #[true, true, true, true, true, true, true, true, true, true, true, true, true, true, true, true, true, true, true, false, false, false, false, false] rfl rfl (any_of HT_.out (by kernel_rfl)) (fun _ _ _ h => h) (Or.inl ⟨by rfl, ?_⟩) ?_ ?_
                                                rotate_left
                                                · intro w'
                                                  go_simp
                                                  with_reducible rfl
                                                rotate_left
                                                · simp only [Act.put, List.setIfInBounds_toArray, List.set_cons_zero, List.set_cons_succ, i64_w, i32_w]
                                                  rfl
                                                refine pure_ (i := 19) (N := some 63) (v := ?_) (a' := ?_) #[true, true, true, true, true, true, true, true, true, true, true, true, true, true, true, true, true, true, true, true, false, false, false, false] rfl rfl (any_of HT_.out (by kernel_rfl)) (fun _ _ _ h => h) (Or.inl ⟨by rfl, ?_⟩) ?_ ?_
                                                rotate_left
                                                · intro w'
                                                  go_simp
                                                  with_reducible rfl
                                                rotate_left
                                                · simp only [Act.put, List.setIfInBounds_toArray, List.set_cons_zero, List.set_cons_succ, i64_w, i32_w]
                                                  rfl
                                                refine take_ (i := 20) (N := some 64) (v := ?_) (a' := ?_) #[true, true, true, true, true, true, true, true, true, true, true, true, true, true, true, true, true, true, true, true, true, false, false, false] rfl rfl (take_ofW HT_.out HW_.out (by kernel_rfl)) (fun _ _ _ h => h) (Or.inl ⟨by rfl, ?_⟩) hHeld ?_ ?_
                                                rotate_left
                                                · rintro w' ⟨s0, s1, s2, s3, s4, s5, s6, s7, s8, s9, s10, s11, s12⟩
                                                  go_simp
                                                  with_reducible rfl
                                                rotate_left
                                                · simp only [Act.put, List.setIfInBounds_toArray, List.set_cons_zero, List.set_cons_succ, i64_w, i32_w]
                                                  rfl
                                                refine one_ (i := 21) (N := some 65) #[true, true, true, true, true, true, true, true, true, true, true, true, true, true, true, true, true, true, true, true, true, true, false, false] rfl rfl (one_of HT_.out (by kernel_rfl)) (by decide) (fun K hK => ?_)
                                                refine goes_ Tryd.func11 (by kernel_rfl) rfl #[.agg #[.int .i64 ((rd_T68 (rd_L9 l0 x5_1) x7_4).f1.f0), .int .i64 ((rd_T68 (rd_L9 l0 x5_1) x7_4).f1.f1), .int .i64 ((rd_T68 (rd_L9 l0 x5_1) x7_4).f1.f2), .slice A146_4 ((rd_T68 (rd_L9 l0 x5_1) x7_4).f1.f3).length c146_4]] (by rfl) rfl rfl (by (try simp only [List.map_toArray, List.map_cons, List.map_nil]); first | done | rfl | (simp only [List.length_drop, List.length_take]; rfl)) ?_
                                                with_reducible refine (spec_VerText.calls kj10 ((rd_T68 (rd_L9 l0 x5_1) x7_4).f1.f0) ((rd_T68 (rd_L9 l0 x5_1) x7_4).f1.f1) ((rd_T68 (rd_L9 l0 x5_1) x7_4).f1.f2) _ _ ((rd_T68 (rd_L9 l0 x5_1) x7_4).f1.f3) t150 _ ?side1 ?side2 A24.out).mono ?_
                                                (case side1 => repeat (first | exact (Kd.C_below HR149_4.out HB.out) | (with_reducible refine Kd.C_alloc ?_ _) | (with_reducible refine Kd.C_drewN ?_ _) | (with_reducible refine Kd.C_drew ?_)))
                                                (case side2 => exact HC149_4.out)
                                                rintro e w28 ⟨rfl, hb⟩
                                                have HS6_ := (hb.cell (World.block_lt_of_cell? _ _ (hHeld.2.2.2.2.2.2.1))).trans (hHeld.2.2.2.2.2.2.1)
                                                refine ⟨_, rfl, ?_⟩
                                                have n0_ := Aside0.mk (Kd.R_below (by (with_reducible repeat (first | apply Kd.R_alloc | apply Kd.R_drewN | apply Kd.R_drew)); exact HO_3.out) hb)
                                                have n1_ := Aside0.mk (below_step (by repeat (first | (with_reducible first | exact HB.out | apply below_alloc | apply pw_below_drewN | apply below_drew1) | exact HB.out)) hb)
                                                clear HO_3
                                                clear HB
                                                have HO_3 := n0_
                                                have HB := n1_
                                                clear n0_ n1_
                                                (try clear hb)
                                                (try clear hb2)
                                                (try clear hk)
                                                (try clear hi)
                                                refine hK.out _ _ ⟨((HB.out.cell (World.block_lt_of_cell? w _ hw145_0)).trans hw145_0), ((HB.out.cell (World.block_lt_of_cell? w _ hw146_0)).trans hw146_0), ((HB.out.cell (World.block_lt_of_cell? w _ hw146_1)).trans hw146_1), ((HB.out.cell (World.block_lt_of_cell? w _ hw146_2)).trans hw146_2), ((HB.out.cell (World.block_lt_of_cell? w _ hw146_3)).trans hw146_3), ((HB.out.cell (World.block_lt_of_cell? w _ hw146_4)).trans hw146_4), HS6_, ((HB.out.cell (World.block_lt_of_cell? w _ hw148_0)).trans hw148_0), ((HB.out.cell (World.block_lt_of_cell? w _ hw149_0)).trans hw149_0), ((HB.out.cell (World.block_lt_of_cell? w _ hw149_1)).trans hw149_1), ((HB.out.cell (World.block_lt_of_cell? w _ hw149_2)).trans hw149_2), ((HB.out.cell (World.block_lt_of_cell? w _ hw149_3)).trans hw149_3), ((HB.out.cell (World.block_lt_of_cell? w _ hw149_4)).trans hw149_4)⟩ (fun hHeld => ?_)
                                                clear hK K
                                                refine norm_ (a' := ?_) ?_ ?_
                                                rotate_left
                                                · show Act.put _ (some 65) _ = _
                                                  simp only [Act.put, List.setIfInBounds_toArray, List.set_cons_zero, List.set_cons_succ, i64_w, i32_w]
                                                  rfl
                                                refine pure_ (i := 22) (N := some 66) (v := ?_) (a' := ?_) #[true, true, true, true, true, true, true, true, true, true, true, true, true, true, true, true, true, true, true, true, true, true, true, false] rfl rfl (any_of HT_.out (by kernel_rfl)) (fun _ _ _ h => h) (Or.inl ⟨by rfl, ?_⟩) ?_ ?_
                                                rotate_left
                                                · intro w'
                                                  go_simp
                                                  with_reducible rfl
                                                rotate_left
                                                · simp only [Act.put, List.setIfInBounds_toArray, List.set_cons_zero, List.set_cons_succ, i64_w, i32_w]
                                                  rfl
                                                refine pure_ (i := 23) (N := some 4) (v := ?_) (a' := ?_) #[true, true, true, true, true, true, true, true, true, true, true, true, true, true, true, true, true, true, true, true, true, true, true, true] rfl rfl (any_of HT_.out (by kernel_rfl)) (fun _ _ _ h => h) (Or.inl ⟨by rfl, ?_⟩) ?_ ?_
                                                rotate_left
                                                · intro w'
                                                  go_simp
                                                  with_reducible rfl
                                                rotate_left
                                                · simp only [Act.put, List.setIfInBounds_toArray, List.set_cons_zero, List.set_cons_succ, i64_w, i32_w]
                                                  rfl
                                                refine done_ (done_of HT_.out (by kernel_rfl)) ?_
                                                try go_wp2
                                                go_roundg kj10
                                                case measure => have := HK1.out; have := HJ3.out; have := HJ5.out; have := HK4.out; have := HJ10.out; omega
                                                case rel => exact ⟨(((x4_4 ++ (⟨#[32]⟩ : ByteArray)) ++ (rdOf ByteArray.empty y138 ((rd_T68 (rd_L9 l0 x5_1) x7_4).f0))) ++ t150), (wrap64 (x6_4 + 1)), (wrap64 (x7_4 + 1)), (by first | rfl | (simp; done) | (simp [*]; done) | (simp; rw [Bool.eq_iff_iff]; simp; done)), (by first | rfl | (simp; done) | (simp [*]; done) | (simp; rw [Bool.eq_iff_iff]; simp; done)), (by first | rfl | (simp; done) | (simp [*]; done) | (simp; rw [Bool.eq_iff_iff]; simp; done)), H', ⟨by have := HK1.out; have := HJ3.out; have := HJ5.out; have := HK4.out; have := HJ10.out; omega⟩, ⟨by (with_reducible repeat (first | apply Kd.R_alloc | apply Kd.R_drewN | apply Kd.R_drew)); exact HO_3.out⟩, ⟨by repeat (first | (with_reducible first | exact HB.out | apply below_alloc | apply pw_below_drewN | apply below_drew1) | exact HB.out)⟩⟩
                                              · rw [if_neg c25] at H
                                                exact absurd H (by simp)
                                            · rw [if_neg c23] at H
                                              exact absurd H (by simp)
                                          · rw [if_neg c22] at H
                                            exact absurd H (by simp)
                                        · rw [if_neg c21] at H
                                          exact absurd H (by simp)
                                      · rw [if_neg c20] at H
                                        exact absurd H (by simp)
                                    · rw [if_neg c19] at H
                                      have c19b0 : decide (0 < x6_4) = false := decide_eq_false c19
                                      clear c19
                                      by_cases c29 : 0 ≤ ((rd_T68 (rd_L9 l0 x5_1) x7_4).f0)
                                      · rw [if_pos c29] at H
                                        have c29b0 : decide (0 ≤ ((rd_T68 (rd_L9 l0 x5_1) x7_4).f0)) = true := decide_eq_true c29
                                        clear c29
                                        by_cases c30 : ((rd_T68 (rd_L9 l0 x5_1) x7_4).f0) < (y138.length : Int)
                                        · rw [if_pos c30] at H
                                          have c30b0 : decide (((rd_T68 (rd_L9 l0 x5_1) x7_4).f0) < (y138.length : Int)) = true := decide_eq_true c30
                                          clear c30
                                          by_cases c31 : x4_4.size + (rdOf ByteArray.empty y138 ((rd_T68 (rd_L9 l0 x5_1) x7_4).f0)).size ≤ 9223372036854775807
                                          · rw [if_pos c31] at H
                                            have c31b0 := eq_true c31
                                            have c31b1 : decide (x4_4.size + (rdOf ByteArray.empty y138 ((rd_T68 (rd_L9 l0 x5_1) x7_4).f0)).size ≤ 9223372036854775807) = true := decide_eq_true c31
                                            try have c31b2 : (9223372036854775807 < x4_4.size + (rdOf ByteArray.empty y138 ((rd_T68 (rd_L9 l0 x5_1) x7_4).f0)).size) = False := eq_false (Nat.not_lt.2 c31)
                                            replace H := Option.bind_eq_some_iff.mp H
                                            obtain ⟨t156, A320, H⟩ := H
                                            replace H : (if (x4_4 ++ (rdOf ByteArray.empty y138 ((rd_T68 (rd_L9 l0 x5_1) x7_4).f0))).size + t156.size ≤ 9223372036854775807 then (spec_RangeText.l1 kj10 l0 y138 ((x4_4 ++ (rdOf ByteArray.empty y138 ((rd_T68 (rd_L9 l0 x5_1) x7_4).f0))) ++ t156) x5_1 (wrap64 (x6_4 + 1)) (wrap64 (x7_4 + 1))) else (none)) = some r := H
                                            have A32 := Aside0.mk A320
                                            clear A320
                                            by_cases c33 : (x4_4 ++ (rdOf ByteArray.empty y138 ((rd_T68 (rd_L9 l0 x5_1) x7_4).f0))).size + t156.size ≤ 9223372036854775807
                                            · rw [if_pos c33] at H
                                              have c33b0 := eq_true c33
                                              have c33b1 : decide ((x4_4 ++ (rdOf ByteArray.empty y138 ((rd_T68 (rd_L9 l0 x5_1) x7_4).f0))).size + t156.size ≤ 9223372036854775807) = true := decide_eq_true c33
                                              try have c33b2 : (9223372036854775807 < (x4_4 ++ (rdOf ByteArray.empty y138 ((rd_T68 (rd_L9 l0 x5_1) x7_4).f0))).size + t156.size) = False := eq_false (Nat.not_lt.2 c33)
                                              try have c33b3 : (9223372036854775807 < x4_4.size + (rdOf ByteArray.empty y138 ((rd_T68 (rd_L9 l0 x5_1) x7_4).f0)).size + t156.size) = False := (by have z_ := c33; (try simp only [ByteArray.size_append] at z_); exact eq_false (Nat.not_lt.2 z_))
                                              have H' := Aside0.mk H
                                              clear H
                                              have p142 : 0 ≤ (x5_1 : Int) := of_decide_eq_true (by first | (with_reducible assumption) | assumption)
                                              have q142 : x5_1 < (l0.length : Int) := of_decide_eq_true (by first | (with_reducible assumption) | assumption)
                                              obtain ⟨ad142, A142_0, c142_0, e142, hx142_0, hl142_0, hi142_0⟩ := at_L9 HR0.out x5_1 p142 q142
                                              obtain rfl : ad141 = ad142 := (by injection e142)
                                              replace hx142_0 := (HB.out.cell (World.block_lt_of_cell? w _ hx142_0)).trans hx142_0
                                              have HR142_0 := Aside0.mk hi142_0
                                              have HC142_0 := Aside0.mk hl142_0
                                              clear hi142_0 hl142_0
                                              replace p142 := eq_true p142
                                              replace q142 := eq_true q142
                                              have p143 : 0 ≤ (x7_4 : Int) := of_decide_eq_true (by first | (with_reducible assumption) | assumption)
                                              have q143 : x7_4 < ((rd_L9 l0 x5_1).length : Int) := of_decide_eq_true (by first | (with_reducible assumption) | assumption)
                                              obtain ⟨ad143, A143_4, c143_4, e143, hx143_0, hx143_1, hx143_2, hx143_3, hx143_4, hl143_4, hi143_4⟩ := at_T68 HR142_0.out x7_4 p143 q143
                                              cases e143
                                              replace hx143_0 := (HB.out.cell (World.block_lt_of_cell? w _ hx143_0)).trans hx143_0
                                              replace hx143_1 := (HB.out.cell (World.block_lt_of_cell? w _ hx143_1)).trans hx143_1
                                              replace hx143_2 := (HB.out.cell (World.block_lt_of_cell? w _ hx143_2)).trans hx143_2
                                              replace hx143_3 := (HB.out.cell (World.block_lt_of_cell? w _ hx143_3)).trans hx143_3
                                              replace hx143_4 := (HB.out.cell (World.block_lt_of_cell? w _ hx143_4)).trans hx143_4
                                              have HR143_4 := Aside0.mk hi143_4
                                              have HC143_4 := Aside0.mk hl143_4
                                              clear hi143_4 hl143_4
                                              replace p143 := eq_true p143
                                              replace q143 := eq_true q143
                                              try go_wp2_with (first | ((with_reducible refine gate_callee (f := 30) rfl ?_); refine goesL_ (some 36) rfl rfl Tryd.func30 (by kernel_rfl) rfl #[.int .i64 ((rd_T68 (rd_L9 l0 x5_1) x7_4).f0), .int .i64 0, .int .i64 4] rfl (by (try simp only [List.map_toArray, List.map_cons, List.map_nil]); first | done | rfl | (simp only [List.length_drop, List.length_take]; rfl)) ?_; (with_reducible refine (spec_l1In.calls ((rd_T68 (rd_L9 l0 x5_1) x7_4).f0) 0 4 true _ A17.out).mono ?_); rintro e w' ⟨rfl, ⟨nd, rfl⟩⟩; refine ⟨_, rfl, ?_⟩))
                                              (try (rw [drewN_self wc]; generalize hq_ : World.drewN wc _ = wc; have n0_ : Aside0 (Kd.R Kd.string 9 wc w.heap.size (fun _ => True) v139 y138) := ⟨by rw [← hq_]; exact (by (with_reducible repeat (first | apply Kd.R_alloc | apply Kd.R_drewN | apply Kd.R_drew)); exact HO_3.out)⟩; have n1_ : Aside0 (Below w.heap.size w wc) := ⟨by rw [← hq_]; exact (by repeat (first | (with_reducible first | exact HB.out | apply below_alloc | apply pw_below_drewN | apply below_drew1) | exact HB.out))⟩; clear HO_3 HB hq_; have HO_3 := n0_; have HB := n1_; clear n0_ n1_))
                                              have n0_ := Aside0.mk (Kd.R_drew HO_3.out)
                                              have n1_ := Aside0.mk (below_drew1 HB.out)
                                              clear HO_3
                                              clear HB
                                              have HO_3 := n0_
                                              have HB := n1_
                                              clear n0_ n1_
                                              have p151 : 0 ≤ (x5_1 : Int) := of_decide_eq_true (by first | (with_reducible assumption) | assumption)
                                              have q151 : x5_1 < (l0.length : Int) := of_decide_eq_true (by first | (with_reducible assumption) | assumption)
                                              obtain ⟨ad151, A151_0, c151_0, e151, hx151_0, hl151_0, hi151_0⟩ := at_L9 HR0.out x5_1 p151 q151
                                              have hw151_0 := hx151_0
                                              obtain rfl : ad141 = ad151 := (by injection e151)
                                              replace hx151_0 := (HB.out.cell (World.block_lt_of_cell? w _ hx151_0)).trans hx151_0
                                              have HR151_0 := Aside0.mk hi151_0
                                              have HC151_0 := Aside0.mk hl151_0
                                              clear hi151_0 hl151_0
                                              replace p151 := eq_true p151
                                              replace q151 := eq_true q151
                                              have p152 : 0 ≤ (x7_4 : Int) := of_decide_eq_true (by first | (with_reducible assumption) | assumption)
                                              have q152 : x7_4 < ((rd_L9 l0 x5_1).length : Int) := of_decide_eq_true (by first | (with_reducible assumption) | assumption)
                                              obtain ⟨ad152, A152_4, c152_4, e152, hx152_0, hx152_1, hx152_2, hx152_3, hx152_4, hl152_4, hi152_4⟩ := at_T68 HR151_0.out x7_4 p152 q152
                                              have hw152_4 := hx152_4
                                              have hw152_3 := hx152_3
                                              have hw152_2 := hx152_2
                                              have hw152_1 := hx152_1
                                              have hw152_0 := hx152_0
                                              cases e152
                                              replace hx152_0 := (HB.out.cell (World.block_lt_of_cell? w _ hx152_0)).trans hx152_0
                                              replace hx152_1 := (HB.out.cell (World.block_lt_of_cell? w _ hx152_1)).trans hx152_1
                                              replace hx152_2 := (HB.out.cell (World.block_lt_of_cell? w _ hx152_2)).trans hx152_2
                                              replace hx152_3 := (HB.out.cell (World.block_lt_of_cell? w _ hx152_3)).trans hx152_3
                                              replace hx152_4 := (HB.out.cell (World.block_lt_of_cell? w _ hx152_4)).trans hx152_4
                                              have HR152_4 := Aside0.mk hi152_4
                                              have HC152_4 := Aside0.mk hl152_4
                                              clear hi152_4 hl152_4
                                              replace p152 := eq_true p152
                                              replace q152 := eq_true q152
                                              obtain ⟨Ao35, co35, eo35⟩ := Kd.R_slice HO_3.out
                                              (first | subst eo35 | (injection eo35 with f1_ f2_ f3_; have f4_ := f1_.symm; have f5_ := f3_.symm; clear f1_ f2_ f3_; subst f4_; subst f5_))
                                              have p153 : 0 ≤ (((rd_T68 (rd_L9 l0 x5_1) x7_4).f0) : Int) := of_decide_eq_true (by first | (with_reducible assumption) | assumption)
                                              have q153 : ((rd_T68 (rd_L9 l0 x5_1) x7_4).f0) < (y138.length : Int) := of_decide_eq_true (by first | (with_reducible assumption) | assumption)
                                              obtain ⟨ad153, e153, hx153_0⟩ := Kd.at_string (Kd.R_reads' HO_3.out).2.2 ((rd_T68 (rd_L9 l0 x5_1) x7_4).f0) p153 q153
                                              cases e153
                                              replace p153 := eq_true p153
                                              replace q153 := eq_true q153
                                              have p154 : 0 ≤ (x5_1 : Int) := of_decide_eq_true (by first | (with_reducible assumption) | assumption)
                                              have q154 : x5_1 < (l0.length : Int) := of_decide_eq_true (by first | (with_reducible assumption) | assumption)
                                              obtain ⟨ad154, A154_0, c154_0, e154, hx154_0, hl154_0, hi154_0⟩ := at_L9 HR0.out x5_1 p154 q154
                                              have hw154_0 := hx154_0
                                              obtain rfl : ad141 = ad154 := (by injection e154)
                                              replace hx154_0 := (HB.out.cell (World.block_lt_of_cell? w _ hx154_0)).trans hx154_0
                                              have HR154_0 := Aside0.mk hi154_0
                                              have HC154_0 := Aside0.mk hl154_0
                                              clear hi154_0 hl154_0
                                              replace p154 := eq_true p154
                                              replace q154 := eq_true q154
                                              have ea_ := Option.some.inj (hx151_0.symm.trans hx154_0)
                                              injection ea_ with ea_ en_ ec_
                                              subst ea_
                                              subst ec_
                                              clear en_
                                              have p155 : 0 ≤ (x7_4 : Int) := of_decide_eq_true (by first | (with_reducible assumption) | assumption)
                                              have q155 : x7_4 < ((rd_L9 l0 x5_1).length : Int) := of_decide_eq_true (by first | (with_reducible assumption) | assumption)
                                              obtain ⟨ad155, A155_4, c155_4, e155, hx155_0, hx155_1, hx155_2, hx155_3, hx155_4, hl155_4, hi155_4⟩ := at_T68 HR154_0.out x7_4 p155 q155
                                              have hw155_4 := hx155_4
                                              have hw155_3 := hx155_3
                                              have hw155_2 := hx155_2
                                              have hw155_1 := hx155_1
                                              have hw155_0 := hx155_0
                                              cases e155
                                              replace hx155_0 := (HB.out.cell (World.block_lt_of_cell? w _ hx155_0)).trans hx155_0
                                              replace hx155_1 := (HB.out.cell (World.block_lt_of_cell? w _ hx155_1)).trans hx155_1
                                              replace hx155_2 := (HB.out.cell (World.block_lt_of_cell? w _ hx155_2)).trans hx155_2
                                              replace hx155_3 := (HB.out.cell (World.block_lt_of_cell? w _ hx155_3)).trans hx155_3
                                              replace hx155_4 := (HB.out.cell (World.block_lt_of_cell? w _ hx155_4)).trans hx155_4
                                              have HR155_4 := Aside0.mk hi155_4
                                              have HC155_4 := Aside0.mk hl155_4
                                              clear hi155_4 hl155_4
                                              have ea_ := Option.some.inj (hx152_4.symm.trans hx155_4)
                                              injection ea_ with ea_ en_ ec_
                                              subst ea_
                                              subst ec_
                                              clear en_
                                              replace p155 := eq_true p155
                                              replace q155 := eq_true q155
                                              refine start_ (n := 24) (S := fun w' => w'.cell? (ad141.add (x5_1).toNat) = some (.slice (some ad152) (rd_L9 l0 x5_1).length c151_0) ∧ w'.cell? (ad152.add ((x7_4).toNat * 5)) = some (.int .i64 ((rd_T68 (rd_L9 l0 x5_1) x7_4).f0)) ∧ w'.cell? ⟨(ad152.add ((x7_4).toNat * 5)).block, (ad152.add ((x7_4).toNat * 5)).off + 1, none⟩ = some (.int .i64 ((rd_T68 (rd_L9 l0 x5_1) x7_4).f1.f0)) ∧ w'.cell? ⟨(ad152.add ((x7_4).toNat * 5)).block, (ad152.add ((x7_4).toNat * 5)).off + 2, none⟩ = some (.int .i64 ((rd_T68 (rd_L9 l0 x5_1) x7_4).f1.f1)) ∧ w'.cell? ⟨(ad152.add ((x7_4).toNat * 5)).block, (ad152.add ((x7_4).toNat * 5)).off + 3, none⟩ = some (.int .i64 ((rd_T68 (rd_L9 l0 x5_1) x7_4).f1.f2)) ∧ w'.cell? ⟨(ad152.add ((x7_4).toNat * 5)).block, (ad152.add ((x7_4).toNat * 5)).off + 4, none⟩ = some (.slice A152_4 ((rd_T68 (rd_L9 l0 x5_1) x7_4).f1.f3).length c152_4) ∧ w'.cell? (ad153.add (((rd_T68 (rd_L9 l0 x5_1) x7_4).f0)).toNat) = some (.string (rdOf ByteArray.empty y138 ((rd_T68 (rd_L9 l0 x5_1) x7_4).f0))) ∧ w'.cell? (ad141.add (x5_1).toNat) = some (.slice (some ad152) (rd_L9 l0 x5_1).length c151_0) ∧ w'.cell? (ad152.add ((x7_4).toNat * 5)) = some (.int .i64 ((rd_T68 (rd_L9 l0 x5_1) x7_4).f0)) ∧ w'.cell? ⟨(ad152.add ((x7_4).toNat * 5)).block, (ad152.add ((x7_4).toNat * 5)).off + 1, none⟩ = some (.int .i64 ((rd_T68 (rd_L9 l0 x5_1) x7_4).f1.f0)) ∧ w'.cell? ⟨(ad152.add ((x7_4).toNat * 5)).block, (ad152.add ((x7_4).toNat * 5)).off + 2, none⟩ = some (.int .i64 ((rd_T68 (rd_L9 l0 x5_1) x7_4).f1.f1)) ∧ w'.cell? ⟨(ad152.add ((x7_4).toNat * 5)).block, (ad152.add ((x7_4).toNat * 5)).off + 3, none⟩ = some (.int .i64 ((rd_T68 (rd_L9 l0 x5_1) x7_4).f1.f2)) ∧ w'.cell? ⟨(ad152.add ((x7_4).toNat * 5)).block, (ad152.add ((x7_4).toNat * 5)).off + 4, none⟩ = some (.slice A152_4 ((rd_T68 (rd_L9 l0 x5_1) x7_4).f1.f3).length c152_4)) (ds := []) #[false, false, false, false, false, false, false, false, false, false, false, false, false, false, false, false, false, false, false, false, false, false, false, false] (by kernel_rfl) rfl rfl ⟨((HB.out.cell (World.block_lt_of_cell? w _ hw151_0)).trans hw151_0), ((HB.out.cell (World.block_lt_of_cell? w _ hw152_0)).trans hw152_0), ((HB.out.cell (World.block_lt_of_cell? w _ hw152_1)).trans hw152_1), ((HB.out.cell (World.block_lt_of_cell? w _ hw152_2)).trans hw152_2), ((HB.out.cell (World.block_lt_of_cell? w _ hw152_3)).trans hw152_3), ((HB.out.cell (World.block_lt_of_cell? w _ hw152_4)).trans hw152_4), hx153_0, ((HB.out.cell (World.block_lt_of_cell? w _ hw154_0)).trans hw154_0), ((HB.out.cell (World.block_lt_of_cell? w _ hw155_0)).trans hw155_0), ((HB.out.cell (World.block_lt_of_cell? w _ hw155_1)).trans hw155_1), ((HB.out.cell (World.block_lt_of_cell? w _ hw155_2)).trans hw155_2), ((HB.out.cell (World.block_lt_of_cell? w _ hw155_3)).trans hw155_3), ((HB.out.cell (World.block_lt_of_cell? w _ hw155_4)).trans hw155_4)⟩ (fun hHeld => ?_); refine with_tabW spec_RangeText.tab16 spec_RangeText.bits16 (fun HT_ HW_ => ?_)
                                              generalize wc.drew = w34 at HO_3 HB HR151_0 HR152_4 HR154_0 HR155_4 hx151_0 hx152_0 hx152_1 hx152_2 hx152_3 hx152_4 hx153_0 hx154_0 hx155_0 hx155_1 hx155_2 hx155_3 hx155_4 hHeld ⊢
                                              refine pure_ (i := 0) (N := some 44) (v := ?_) (a' := ?_) #[true, false, false, false, false, false, false, false, false, false, false, false, false, false, false, false, false, false, false, false, false, false, false, false] rfl rfl (any_of HT_.out (by kernel_rfl)) (fun _ _ _ h => h) (Or.inl ⟨by rfl, ?_⟩) ?_ ?_
                                              rotate_left
                                              · intro w'
                                                go_simp
                                                with_reducible rfl
                                              rotate_left
                                              · simp only [Act.put, List.setIfInBounds_toArray, List.set_cons_zero, List.set_cons_succ, i64_w, i32_w]
                                                rfl
                                              refine pure_ (i := 1) (N := some 45) (v := ?_) (a' := ?_) #[true, true, false, false, false, false, false, false, false, false, false, false, false, false, false, false, false, false, false, false, false, false, false, false] rfl rfl (any_of HT_.out (by kernel_rfl)) (fun _ _ _ h => h) (Or.inl ⟨by rfl, ?_⟩) ?_ ?_
                                              rotate_left
                                              · intro w'
                                                go_simp
                                                with_reducible rfl
                                              rotate_left
                                              · simp only [Act.put, List.setIfInBounds_toArray, List.set_cons_zero, List.set_cons_succ, i64_w, i32_w]
                                                rfl
                                              refine pure_ (i := 2) (N := some 46) (v := ?_) (a' := ?_) #[true, true, true, false, false, false, false, false, false, false, false, false, false, false, false, false, false, false, false, false, false, false, false, false] rfl rfl (any_of HT_.out (by kernel_rfl)) (fun _ _ _ h => h) (Or.inl ⟨by rfl, ?_⟩) ?_ ?_
                                              rotate_left
                                              · intro w'
                                                go_simp
                                                with_reducible rfl
                                              rotate_left
                                              · simp only [Act.put, List.setIfInBounds_toArray, List.set_cons_zero, List.set_cons_succ, i64_w, i32_w]
                                                rfl
                                              refine pure_ (i := 3) (N := some 47) (v := ?_) (a' := ?_) #[true, true, true, true, false, false, false, false, false, false, false, false, false, false, false, false, false, false, false, false, false, false, false, false] rfl rfl (any_of HT_.out (by kernel_rfl)) (fun _ _ _ h => h) (Or.inl ⟨by rfl, ?_⟩) ?_ ?_
                                              rotate_left
                                              · intro w'
                                                go_simp
                                                with_reducible rfl
                                              rotate_left
                                              · simp only [Act.put, List.setIfInBounds_toArray, List.set_cons_zero, List.set_cons_succ, i64_w, i32_w]
                                                rfl
                                              refine pure_ (i := 4) (N := some 48) (v := ?_) (a' := ?_) #[true, true, true, true, true, false, false, false, false, false, false, false, false, false, false, false, false, false, false, false, false, false, false, false] rfl rfl (any_of HT_.out (by kernel_rfl)) (fun _ _ _ h => h) (Or.inl ⟨by rfl, ?_⟩) ?_ ?_
                                              rotate_left
                                              · intro w'
                                                go_simp
                                                with_reducible rfl
                                              rotate_left
                                              · simp only [Act.put, List.setIfInBounds_toArray, List.set_cons_zero, List.set_cons_succ, i64_w, i32_w]
                                                rfl
                                              refine pure_ (i := 6) (N := some 50) (v := ?_) (a' := ?_) #[true, true, true, true, true, false, true, false, false, false, false, false, false, false, false, false, false, false, false, false, false, false, false, false] rfl rfl (any_of HT_.out (by kernel_rfl)) (fun _ _ _ h => h) (Or.inl ⟨by rfl, ?_⟩) ?_ ?_
                                              rotate_left
                                              · intro w'
                                                go_simp
                                                with_reducible rfl
                                              rotate_left
                                              · simp only [Act.put, List.setIfInBounds_toArray, List.set_cons_zero, List.set_cons_succ, i64_w, i32_w]
                                                rfl
                                              refine pure_ (i := 13) (N := some 57) (v := ?_) (a' := ?_) #[true, true, true, true, true, false, true, false, false, false, false, false, false, true, false, false, false, false, false, false, false, false, false, false] rfl rfl (any_of HT_.out (by kernel_rfl)) (fun _ _ _ h => h) (Or.inl ⟨by rfl, ?_⟩) ?_ ?_
                                              rotate_left
                                              · intro w'
                                                go_simp
                                                with_reducible rfl
                                              rotate_left
                                              · simp only [Act.put, List.setIfInBounds_toArray, List.set_cons_zero, List.set_cons_succ, i64_w, i32_w]
                                                rfl
                                              refine pure_ (i := 14) (N := some 58) (v := ?_) (a' := ?_) #[true, true, true, true, true, false, true, false, false, false, false, false, false, true, true, false, false, false, false, false, false, false, false, false] rfl rfl (any_of HT_.out (by kernel_rfl)) (fun _ _ _ h => h) (Or.inl ⟨by rfl, ?_⟩) ?_ ?_
                                              rotate_left
                                              · intro w'
                                                go_simp
                                                with_reducible rfl
                                              rotate_left
                                              · simp only [Act.put, List.setIfInBounds_toArray, List.set_cons_zero, List.set_cons_succ, i64_w, i32_w]
                                                rfl
                                              refine pure_ (i := 15) (N := some 59) (v := ?_) (a' := ?_) #[true, true, true, true, true, false, true, false, false, false, false, false, false, true, true, true, false, false, false, false, false, false, false, false] rfl rfl (any_of HT_.out (by kernel_rfl)) (fun _ _ _ h => h) (Or.inl ⟨by rfl, ?_⟩) ?_ ?_
                                              rotate_left
                                              · intro w'
                                                go_simp
                                                with_reducible rfl
                                              rotate_left
                                              · simp only [Act.put, List.setIfInBounds_toArray, List.set_cons_zero, List.set_cons_succ, i64_w, i32_w]
                                                rfl
                                              refine pure_ (i := 17) (N := some 61) (v := ?_) (a' := ?_) #[true, true, true, true, true, false, true, false, false, false, false, false, false, true, true, true, false, true, false, false, false, false, false, false] rfl rfl (any_of HT_.out (by kernel_rfl)) (fun _ _ _ h => h) (Or.inl ⟨by rfl, ?_⟩) ?_ ?_
                                              rotate_left
                                              · intro w'
                                                go_simp
                                                with_reducible rfl
                                              rotate_left
                                              · simp only [Act.put, List.setIfInBounds_toArray, List.set_cons_zero, List.set_cons_succ, i64_w, i32_w]
                                                rfl
                                              refine take_ (i := 5) (N := some 49) (v := ?_) (a' := ?_) #[true, true, true, true, true, true, true, false, false, false, false, false, false, true, true, true, false, true, false, false, false, false, false, false] rfl rfl (take_ofW HT_.out HW_.out (by kernel_rfl)) (fun _ _ _ h => h) (Or.inl ⟨by rfl, ?_⟩) hHeld ?_ ?_
                                              rotate_left
                                              · rintro w' ⟨s0, s1, s2, s3, s4, s5, s6, s7, s8, s9, s10, s11, s12⟩
                                                go_simp
                                                with_reducible rfl
                                              rotate_left
                                              · simp only [Act.put, List.setIfInBounds_toArray, List.set_cons_zero, List.set_cons_succ, i64_w, i32_w]
                                                rfl
                                              refine pure_ (i := 7) (N := some 51) (v := ?_) (a' := ?_) #[true, true, true, true, true, true, true, true, false, false, false, false, false, true, true, true, false, true, false, false, false, false, false, false] rfl rfl (any_of HT_.out (by kernel_rfl)) (fun _ _ _ h => h) (Or.inl ⟨by rfl, ?_⟩) ?_ ?_
                                              rotate_left
                                              · intro w'
                                                go_simp
                                                with_reducible rfl
                                              rotate_left
                                              · simp only [Act.put, List.setIfInBounds_toArray, List.set_cons_zero, List.set_cons_succ, i64_w, i32_w]
                                                rfl
                                              refine pure_ (i := 8) (N := some 52) (v := ?_) (a' := ?_) #[true, true, true, true, true, true, true, true, true, false, false, false, false, true, true, true, false, true, false, false, false, false, false, false] rfl rfl (any_of HT_.out (by kernel_rfl)) (fun _ _ _ h => h) (Or.inl ⟨by rfl, ?_⟩) ?_ ?_
                                              rotate_left
                                              · intro w'
                                                go_simp
                                                with_reducible rfl
                                              rotate_left
                                              · simp only [Act.put, List.setIfInBounds_toArray, List.set_cons_zero, List.set_cons_succ, i64_w, i32_w]
                                                rfl
                                              refine take_ (i := 9) (N := some 53) (v := ?_) (a' := ?_) #[true, true, true, true, true, true, true, true, true, true, false, false, false, true, true, true, false, true, false, false, false, false, false, false] rfl rfl (take_ofW HT_.out HW_.out (by kernel_rfl)) (fun _ _ _ h => h) (Or.inl ⟨by rfl, ?_⟩) hHeld ?_ ?_
                                              rotate_left
                                              · rintro w' ⟨s0, s1, s2, s3, s4, s5, s6, s7, s8, s9, s10, s11, s12⟩
                                                go_simp
                                                with_reducible rfl
                                              rotate_left
                                              · simp only [Act.put, List.setIfInBounds_toArray, List.set_cons_zero, List.set_cons_succ, i64_w, i32_w]
                                                rfl
                                              refine pure_ (i := 10) (N := some 54) (v := ?_) (a' := ?_) #[true, true, true, true, true, true, true, true, true, true, true, false, false, true, true, true, false, true, false, false, false, false, false, false] rfl rfl (any_of HT_.out (by kernel_rfl)) (fun _ _ _ h => h) (Or.inl ⟨by rfl, ?_⟩) ?_ ?_
                                              rotate_left
                                              · intro w'
                                                go_simp
                                                with_reducible rfl
                                              rotate_left
                                              · simp only [Act.put, List.setIfInBounds_toArray, List.set_cons_zero, List.set_cons_succ, i64_w, i32_w]
                                                rfl
                                              refine take_ (i := 11) (N := some 55) (v := ?_) (a' := ?_) #[true, true, true, true, true, true, true, true, true, true, true, true, false, true, true, true, false, true, false, false, false, false, false, false] rfl rfl (take_ofW HT_.out HW_.out (by kernel_rfl)) (fun _ _ _ h => h) (Or.inl ⟨by rfl, ?_⟩) hHeld ?_ ?_
                                              rotate_left
                                              · rintro w' ⟨s0, s1, s2, s3, s4, s5, s6, s7, s8, s9, s10, s11, s12⟩
                                                go_simp
                                                with_reducible rfl
                                              rotate_left
                                              · simp only [Act.put, List.setIfInBounds_toArray, List.set_cons_zero, List.set_cons_succ, i64_w, i32_w]
                                                rfl
                                              refine pure_ (i := 12) (N := some 56) (v := ?_) (a' := ?_) #[true, true, true, true, true, true, true, true, true, true, true, true, true, true, true, true, false, true, false, false, false, false, false, false] rfl rfl (any_of HT_.out (by kernel_rfl)) (fun _ _ _ h => h) (Or.inl ⟨by rfl, ?_⟩) ?_ ?_
                                              rotate_left
                                              · intro w'
                                                go_simp
                                                with_reducible rfl
                                              rotate_left
                                              · simp only [Act.put, List.setIfInBounds_toArray, List.set_cons_zero, List.set_cons_succ, i64_w, i32_w]
                                                rfl
                                              refine take_ (i := 16) (N := some 60) (v := ?_) (a' := ?_) #[true, true, true, true, true, true, true, true, true, true, true, true, true, true, true, true, true, true, false, false, false, false, false, false] rfl rfl (take_ofW HT_.out HW_.out (by kernel_rfl)) (fun _ _ _ h => h) (Or.inl ⟨by rfl, ?_⟩) hHeld ?_ ?_
                                              rotate_left
                                              · rintro w' ⟨s0, s1, s2, s3, s4, s5, s6, s7, s8, s9, s10, s11, s12⟩
                                                go_simp
                                                with_reducible rfl
                                              rotate_left
                                              · simp only [Act.put, List.setIfInBounds_toArray, List.set_cons_zero, List.set_cons_succ, i64_w, i32_w]
                                                rfl
                                              refine pure_ (i := 18) (N := some 62) (v := ?_) (a' := ?_) #[true, true, true, true, true, true, true, true, true, true, true, true, true, true, true, true, true, true, true, false, false, false, false, false] rfl rfl (any_of HT_.out (by kernel_rfl)) (fun _ _ _ h => h) (Or.inl ⟨by rfl, ?_⟩) ?_ ?_
                                              rotate_left
                                              · intro w'
                                                go_simp
                                                with_reducible rfl
                                              rotate_left
                                              · simp only [Act.put, List.setIfInBounds_toArray, List.set_cons_zero, List.set_cons_succ, i64_w, i32_w]
                                                rfl
                                              refine pure_ (i := 19) (N := some 63) (v := ?_) (a' := ?_) #[true, true, true, true, true, true, true, true, true, true, true, true, true, true, true, true, true, true, true, true, false, false, false, false] rfl rfl (any_of HT_.out (by kernel_rfl)) (fun _ _ _ h => h) (Or.inl ⟨by rfl, ?_⟩) ?_ ?_
                                              rotate_left
                                              · intro w'
                                                go_simp
                                                with_reducible rfl
                                              rotate_left
                                              · simp only [Act.put, List.setIfInBounds_toArray, List.set_cons_zero, List.set_cons_succ, i64_w, i32_w]
                                                rfl
                                              refine take_ (i := 20) (N := some 64) (v := ?_) (a' := ?_) #[true, true, true, true, true, true, true, true, true, true, true, true, true, true, true, true, true, true, true, true, true, false, false, false] rfl rfl (take_ofW HT_.out HW_.out (by kernel_rfl)) (fun _ _ _ h => h) (Or.inl ⟨by rfl, ?_⟩) hHeld ?_ ?_
                                              rotate_left
                                              · rintro w' ⟨s0, s1, s2, s3, s4, s5, s6, s7, s8, s9, s10, s11, s12⟩
                                                go_simp
                                                with_reducible rfl
                                              rotate_left
                                              · simp only [Act.put, List.setIfInBounds_toArray, List.set_cons_zero, List.set_cons_succ, i64_w, i32_w]
                                                rfl
                                              refine one_ (i := 21) (N := some 65) #[true, true, true, true, true, true, true, true, true, true, true, true, true, true, true, true, true, true, true, true, true, true, false, false] rfl rfl (one_of HT_.out (by kernel_rfl)) (by decide) (fun K hK => ?_)
                                              refine goes_ Tryd.func11 (by kernel_rfl) rfl #[.agg #[.int .i64 ((rd_T68 (rd_L9 l0 x5_1) x7_4).f1.f0), .int .i64 ((rd_T68 (rd_L9 l0 x5_1) x7_4).f1.f1), .int .i64 ((rd_T68 (rd_L9 l0 x5_1) x7_4).f1.f2), .slice A152_4 ((rd_T68 (rd_L9 l0 x5_1) x7_4).f1.f3).length c152_4]] (by rfl) rfl rfl (by (try simp only [List.map_toArray, List.map_cons, List.map_nil]); first | done | rfl | (simp only [List.length_drop, List.length_take]; rfl)) ?_
                                              with_reducible refine (spec_VerText.calls kj10 ((rd_T68 (rd_L9 l0 x5_1) x7_4).f1.f0) ((rd_T68 (rd_L9 l0 x5_1) x7_4).f1.f1) ((rd_T68 (rd_L9 l0 x5_1) x7_4).f1.f2) _ _ ((rd_T68 (rd_L9 l0 x5_1) x7_4).f1.f3) t156 _ ?side1 ?side2 A32.out).mono ?_
                                              (case side1 => repeat (first | exact (Kd.C_below HR155_4.out HB.out) | (with_reducible refine Kd.C_alloc ?_ _) | (with_reducible refine Kd.C_drewN ?_ _) | (with_reducible refine Kd.C_drew ?_)))
                                              (case side2 => exact HC155_4.out)
                                              rintro e w36 ⟨rfl, hb⟩
                                              have HS6_ := (hb.cell (World.block_lt_of_cell? _ _ (hHeld.2.2.2.2.2.2.1))).trans (hHeld.2.2.2.2.2.2.1)
                                              refine ⟨_, rfl, ?_⟩
                                              have n0_ := Aside0.mk (Kd.R_below (by (with_reducible repeat (first | apply Kd.R_alloc | apply Kd.R_drewN | apply Kd.R_drew)); exact HO_3.out) hb)
                                              have n1_ := Aside0.mk (below_step (by repeat (first | (with_reducible first | exact HB.out | apply below_alloc | apply pw_below_drewN | apply below_drew1) | exact HB.out)) hb)
                                              clear HO_3
                                              clear HB
                                              have HO_3 := n0_
                                              have HB := n1_
                                              clear n0_ n1_
                                              (try clear hb)
                                              (try clear hb2)
                                              (try clear hk)
                                              (try clear hi)
                                              refine hK.out _ _ ⟨((HB.out.cell (World.block_lt_of_cell? w _ hw151_0)).trans hw151_0), ((HB.out.cell (World.block_lt_of_cell? w _ hw152_0)).trans hw152_0), ((HB.out.cell (World.block_lt_of_cell? w _ hw152_1)).trans hw152_1), ((HB.out.cell (World.block_lt_of_cell? w _ hw152_2)).trans hw152_2), ((HB.out.cell (World.block_lt_of_cell? w _ hw152_3)).trans hw152_3), ((HB.out.cell (World.block_lt_of_cell? w _ hw152_4)).trans hw152_4), HS6_, ((HB.out.cell (World.block_lt_of_cell? w _ hw154_0)).trans hw154_0), ((HB.out.cell (World.block_lt_of_cell? w _ hw155_0)).trans hw155_0), ((HB.out.cell (World.block_lt_of_cell? w _ hw155_1)).trans hw155_1), ((HB.out.cell (World.block_lt_of_cell? w _ hw155_2)).trans hw155_2), ((HB.out.cell (World.block_lt_of_cell? w _ hw155_3)).trans hw155_3), ((HB.out.cell (World.block_lt_of_cell? w _ hw155_4)).trans hw155_4)⟩ (fun hHeld => ?_)
                                              clear hK K
                                              refine norm_ (a' := ?_) ?_ ?_
                                              rotate_left
                                              · show Act.put _ (some 65) _ = _
                                                simp only [Act.put, List.setIfInBounds_toArray, List.set_cons_zero, List.set_cons_succ, i64_w, i32_w]
                                                rfl
                                              refine pure_ (i := 22) (N := some 66) (v := ?_) (a' := ?_) #[true, true, true, true, true, true, true, true, true, true, true, true, true, true, true, true, true, true, true, true, true, true, true, false] rfl rfl (any_of HT_.out (by kernel_rfl)) (fun _ _ _ h => h) (Or.inl ⟨by rfl, ?_⟩) ?_ ?_
                                              rotate_left
                                              · intro w'
                                                go_simp
                                                with_reducible rfl
                                              rotate_left
                                              · simp only [Act.put, List.setIfInBounds_toArray, List.set_cons_zero, List.set_cons_succ, i64_w, i32_w]
                                                rfl
                                              refine pure_ (i := 23) (N := some 4) (v := ?_) (a' := ?_) #[true, true, true, true, true, true, true, true, true, true, true, true, true, true, true, true, true, true, true, true, true, true, true, true] rfl rfl (any_of HT_.out (by kernel_rfl)) (fun _ _ _ h => h) (Or.inl ⟨by rfl, ?_⟩) ?_ ?_
                                              rotate_left
                                              · intro w'
                                                go_simp
                                                with_reducible rfl
                                              rotate_left
                                              · simp only [Act.put, List.setIfInBounds_toArray, List.set_cons_zero, List.set_cons_succ, i64_w, i32_w]
                                                rfl
                                              refine done_ (done_of HT_.out (by kernel_rfl)) ?_
                                              try go_wp2
                                              go_roundg kj10
                                              case measure => have := HK1.out; have := HJ3.out; have := HJ5.out; have := HK4.out; have := HJ10.out; omega
                                              case rel => exact ⟨((x4_4 ++ (rdOf ByteArray.empty y138 ((rd_T68 (rd_L9 l0 x5_1) x7_4).f0))) ++ t156), (wrap64 (x6_4 + 1)), (wrap64 (x7_4 + 1)), (by first | rfl | (simp; done) | (simp [*]; done) | (simp; rw [Bool.eq_iff_iff]; simp; done)), (by first | rfl | (simp; done) | (simp [*]; done) | (simp; rw [Bool.eq_iff_iff]; simp; done)), (by first | rfl | (simp; done) | (simp [*]; done) | (simp; rw [Bool.eq_iff_iff]; simp; done)), H', ⟨by have := HK1.out; have := HJ3.out; have := HJ5.out; have := HK4.out; have := HJ10.out; omega⟩, ⟨by (with_reducible repeat (first | apply Kd.R_alloc | apply Kd.R_drewN | apply Kd.R_drew)); exact HO_3.out⟩, ⟨by repeat (first | (with_reducible first | exact HB.out | apply below_alloc | apply pw_below_drewN | apply below_drew1) | exact HB.out)⟩⟩
                                            · rw [if_neg c33] at H
                                              exact absurd H (by simp)
                                          · rw [if_neg c31] at H
                                            exact absurd H (by simp)
                                        · rw [if_neg c30] at H
                                          exact absurd H (by simp)
                                      · rw [if_neg c29] at H
                                        exact absurd H (by simp)
                                  · replace c18 := Bool.eq_false_iff.mpr c18
                                    subst c18
                                    have H1 : (spec_RangeText.l1 kj10 l0 y138 x4_4 x5_1 x6_4 (wrap64 (x7_4 + 1))) = some r := by rw [if_neg (show ¬ (false = true) by decide)] at H; exact H
                                    clear H
                                    have H := H1
                                    clear H1
                                    have H' := Aside0.mk H
                                    clear H
                                    have p142 : 0 ≤ (x5_1 : Int) := of_decide_eq_true (by first | (with_reducible assumption) | assumption)
                                    have q142 : x5_1 < (l0.length : Int) := of_decide_eq_true (by first | (with_reducible assumption) | assumption)
                                    obtain ⟨ad142, A142_0, c142_0, e142, hx142_0, hl142_0, hi142_0⟩ := at_L9 HR0.out x5_1 p142 q142
                                    obtain rfl : ad141 = ad142 := (by injection e142)
                                    replace hx142_0 := (HB.out.cell (World.block_lt_of_cell? w _ hx142_0)).trans hx142_0
                                    have HR142_0 := Aside0.mk hi142_0
                                    have HC142_0 := Aside0.mk hl142_0
                                    clear hi142_0 hl142_0
                                    replace p142 := eq_true p142
                                    replace q142 := eq_true q142
                                    have p143 : 0 ≤ (x7_4 : Int) := of_decide_eq_true (by first | (with_reducible assumption) | assumption)
                                    have q143 : x7_4 < ((rd_L9 l0 x5_1).length : Int) := of_decide_eq_true (by first | (with_reducible assumption) | assumption)
                                    obtain ⟨ad143, A143_4, c143_4, e143, hx143_0, hx143_1, hx143_2, hx143_3, hx143_4, hl143_4, hi143_4⟩ := at_T68 HR142_0.out x7_4 p143 q143
                                    cases e143
                                    replace hx143_0 := (HB.out.cell (World.block_lt_of_cell? w _ hx143_0)).trans hx143_0
                                    replace hx143_1 := (HB.out.cell (World.block_lt_of_cell? w _ hx143_1)).trans hx143_1
                                    replace hx143_2 := (HB.out.cell (World.block_lt_of_cell? w _ hx143_2)).trans hx143_2
                                    replace hx143_3 := (HB.out.cell (World.block_lt_of_cell? w _ hx143_3)).trans hx143_3
                                    replace hx143_4 := (HB.out.cell (World.block_lt_of_cell? w _ hx143_4)).trans hx143_4
                                    have HR143_4 := Aside0.mk hi143_4
                                    have HC143_4 := Aside0.mk hl143_4
                                    clear hi143_4 hl143_4
                                    replace p143 := eq_true p143
                                    replace q143 := eq_true q143
                                    go_wp2_with (first | ((with_reducible refine gate_callee (f := 30) rfl ?_); refine goesL_ (some 36) rfl rfl Tryd.func30 (by kernel_rfl) rfl #[.int .i64 ((rd_T68 (rd_L9 l0 x5_1) x7_4).f0), .int .i64 0, .int .i64 4] rfl (by (try simp only [List.map_toArray, List.map_cons, List.map_nil]); first | done | rfl | (simp only [List.length_drop, List.length_take]; rfl)) ?_; (with_reducible refine (spec_l1In.calls ((rd_T68 (rd_L9 l0 x5_1) x7_4).f0) 0 4 false _ A17.out).mono ?_); rintro e w' ⟨rfl, ⟨nd, rfl⟩⟩; refine ⟨_, rfl, ?_⟩))
                                    go_roundg kj10
                                    case measure => have := HK1.out; have := HJ3.out; have := HJ5.out; have := HK4.out; have := HJ10.out; omega
                                    case rel => exact ⟨(x4_4), (x6_4), (wrap64 (x7_4 + 1)), (by first | rfl | (simp; done) | (simp [*]; done) | (simp; rw [Bool.eq_iff_iff]; simp; done)), (by first | rfl | (simp; done) | (simp [*]; done) | (simp; rw [Bool.eq_iff_iff]; simp; done)), (by first | rfl | (simp; done) | (simp [*]; done) | (simp; rw [Bool.eq_iff_iff]; simp; done)), H', ⟨by have := HK1.out; have := HJ3.out; have := HJ5.out; have := HK4.out; have := HJ10.out; omega⟩, ⟨by (with_reducible repeat (first | apply Kd.R_alloc | apply Kd.R_drewN | apply Kd.R_drew)); exact HO_3.out⟩, ⟨by repeat (first | (with_reducible first | exact HB.out | apply below_alloc | apply pw_below_drewN | apply below_drew1) | exact HB.out)⟩⟩
                                · rw [if_neg c16] at H
                                  exact absurd H (by simp)
                              · rw [if_neg c15] at H
                                exact absurd H (by simp)
                            · rw [if_neg c14] at H
                              exact absurd H (by simp)
                          · rw [if_neg c13] at H
                            exact absurd H (by simp)
                    · rw [if_neg c10] at H
                      exact absurd H (by simp)
                  · rw [if_neg c9] at H
                    exact absurd H (by simp)

end Go.Proofs.YtpmooegakomnbabDoor.PGC
