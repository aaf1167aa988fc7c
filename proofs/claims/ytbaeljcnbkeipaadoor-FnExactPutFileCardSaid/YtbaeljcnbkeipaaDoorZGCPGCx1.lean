/- The walks of the functions that these laws reach, and what each comes to: printed by this session's program. -/
import Derived.Test.YtbaeljcnbkeipaaDoorZGCPGCx0
import Derived.Test.YtbaeljcnbkeipaaDoorZGCSays
import Derived.Test.YtbaeljcnbkeipaaDoorZGCRegs
namespace Go.Proofs.YtbaeljcnbkeipaaDoor.PGC
open Go.RowKit YtbaeljcnbkeipaaDoorW.PrintWords YtbaeljcnbkeipaaDoorW.PrintLast YtbaeljcnbkeipaaDoorW.PrintMore
attribute [local go_sem high] Mine.str_gtr Mine.str_leq Mine.str_geq
attribute [local go_sem] max2_int min2_int max_two min_two max_three min_three max_four min_four   -- for this text's walks alone
set_option linter.unusedVariables false
set_option maxHeartbeats 8000000
set_option maxRecDepth 100000
set_option linter.unusedSimpArgs false
/-! ### laws_szFile: function 9 -/
def laws_szFile.f (a0 a2 : ByteArray) (a1 : Int) : Option (Int) := if (wrap64 (a1 - (a0.size : Int))) < 0 then (some (-1)) else (if (wrap64 ((wrap64 (a1 - (a0.size : Int))) - (a2.size : Int))) < 0 then (some (-1)) else (some (wrap64 ((wrap64 (a1 - (a0.size : Int))) - (a2.size : Int)))))
theorem laws_szFile.calls (a2 a3 : ByteArray) (a1 r : Int) (w : World) (h : laws_szFile.f a2 a3 a1 = some r) :
  Calls Tryd.prog 9 #[.agg #[.string a2, .string a3], .int .i64 a1] w fun e w' => e = .returned (.int .i64 r) ∧ Below w.heap.size w w' := by
 have a6 := Tryd.underlying24
 have HB := zA (Below.refl w.heap.size w)
 unfold laws_szFile.f at h
 have H := h
 clear h
 go_enter Tryd.func9, Tryd.ntmps9
 go_upto_if 11 with (first | ((with_reducible refine zd 2 ?_); refine ze 2 24 #[.string a2, .string a3] ?_; intro a7 hg w4 hbox hb; have a5 := zA (hbox); have a8 := zi HB hg; have a9 := zi HB hg; replace HB := zA (below_step (zB) hb); clear hb hbox hg; obtain ⟨b0, b1, b2, b3⟩ := ze2 a5.out))
 (try simp only [Act.put, zT])
 replace H := zI0 H
 rcases H with ⟨a0, H⟩ | ⟨a0, H⟩
 ·obtain rfl := zm H
  (try simp only [a0])
  go_wp2
  go_ret
  exact ⟨zE, zW HB.out⟩
 replace H := zI0 H
 rcases H with ⟨a4, H⟩ | ⟨a4, H⟩
 ·obtain rfl := zm H
  (try simp only [a0, a4])
  go_wp2
  go_ret
  exact ⟨zE, zW HB.out⟩
 obtain rfl := zm H
 (try simp only [a0, a4])
 go_wp2
 go_ret
 exact ⟨zE, zW HB.out⟩
/-! ### laws_szFileS: function 8 -/
mutual
def laws_szFileS.j0 : Nat → List (S24) → Int → Option (Int)
 | 0, _, _ => none
 | k + 1, x0, x1 => laws_szFileS.l0 k x0 x1 0
def laws_szFileS.l0 : Nat → List (S24) → Int → Int → Option (Int)
 | 0, _, _, _ => none
 | k + 1, x0, x1, x5 => if x5 < (x0.length : Int) then (if 0 ≤ x5 then ((laws_szFile.f ((rd_T24 x0 x5).f0) ((rd_T24 x0 x5).f1) x1).bind fun a0 => (if a0 < 0 then (some (-1)) else (laws_szFileS.l0 k x0 a0 (wrap64 (x5 + 1))))) else (none)) else (some x1)
end
def laws_szFileS.f (k : Nat) (l0 : List (S24)) (a1 : Int) : Option (Int) := if (wrap64 (a1 - (l0.length : Int))) < 0 then (some (-1)) else (laws_szFileS.j0 k l0 (wrap64 (a1 - (l0.length : Int))))
theorem laws_szFileS.calls (k : Nat) (A0 : Option Addr) (c0 : Nat) (l0 : List (S24)) (a1 r : Int) (w : World) (b1 : Kd.C k24 w A0 l0.length l0) (b2 : l0.length ≤ c0) (h : laws_szFileS.f k l0 a1 = some r) :
  Calls Tryd.prog 8 #[.slice A0 l0.length c0, .int .i64 a1] w fun e w' => e = .returned (.int .i64 r) ∧ Below w.heap.size w w' := by
 have c2 := Tryd.underlying24
 have b3 := zA b1
 have c3 := zA b2
 clear b1 b2
 have HB := zA (Below.refl w.heap.size w)
 unfold laws_szFileS.f at h
 have H := h
 clear h
 have a8 := zA H
 clear H
 go_enter Tryd.func8, Tryd.ntmps8
 go_upto_if 11 with (fail)
 go_cut [] (fun wc => ∃ (kq : Nat), Aside0 (laws_szFileS.j0 kq l0 (wrap64 (a1 - (l0.length : Int))) = some r) ∧ Aside0 (kq ≤ k) ∧ Aside0 (Below w.heap.size w wc))
 case first =>
  have H := a8.out; clear a8; replace H := zI0 H
  rcases H with ⟨a2, H⟩ | ⟨a2, H⟩
  ·(first | rw [a2] | (simp only [i64_w, i32_w]; rw [a2]) | skip)
   obtain rfl := zm H
   go_wp2
   go_ret
   exact ⟨zE, zB⟩
  (first | rw [a2] | (simp only [i64_w, i32_w]; rw [a2]) | skip)
  have H' := zA H; clear H
  go_wp2
  go_meet
  case rel => exact ⟨_, (by first | exact H' | (subst_vars; exact H')), ⟨by first | omega | exact Nat.le_refl _⟩, ⟨zB⟩⟩
 case rest =>
  clear a8
  try clear p2
  try clear c4
  try clear a2
  obtain ⟨kq, HA, b4, HB⟩ := hcut
  cases kq with
  | zero => exact absurd HA.out (by simp [laws_szFileS.j0])
  | succ b5 =>
   have H := HA.out; clear HA; simp only [laws_szFileS.j0] at H; have H' := zA H; clear H
   go_wp2
   go_loopg [1, 5] b5 (fun kq v1 v5 w' => ∃ (a3 : Int) (a0 : Int), v1 = .int .i64 a3 ∧ v5 = .int .i64 a0 ∧ Aside0 (laws_szFileS.l0 kq l0 a3 a0 = some r) ∧ Aside0 (kq ≤ b5) ∧ Aside0 (Below w.heap.size w w'))
   case atStart => exact ⟨((wrap64 (a1 - (l0.length : Int)))), (0), zS, zS, H', ⟨Nat.le_refl _⟩, ⟨zB⟩⟩
   case round =>
    clear H'
    try clear p2
    try clear c4
    try clear a2
    try clear p2
    obtain ⟨a3, a0, rfl, rfl, HA, b6, HB⟩ := hrel
    cases gk with
    | zero => exact absurd HA.out (by simp [laws_szFileS.l0])
    | succ k2 =>
     have H := HA.out; clear HA; simp only [laws_szFileS.l0] at H; replace H := zI0 H
     rcases H with ⟨b8, H⟩ | ⟨b8, H⟩
     ·replace H := zD0 H; obtain ⟨c5, H⟩ := H; replace H := Option.bind_eq_some_iff.mp H; obtain ⟨a9, b7, H⟩ := H
      try dsimp only at H
      have A7 := zA b7; clear b7; replace H := zI0 H
      rcases H with ⟨b9, H⟩ | ⟨b9, H⟩
      ·obtain rfl := zm H; have a4 : 0 ≤ (a0 : Int) := zD; have a5 : a0 < (l0.length : Int) := zD; obtain ⟨c1, b0, a6, a7⟩ := at_T24 b3.out a0 a4 a5; cases b0; replace a6 := zx HB a6; replace a7 := zx HB a7; replace a4 := eq_true a4; replace a5 := eq_true a5
       go_wp2_with (first | ((with_reducible refine zq 9 ?_); refine zg (some 23) Tryd.func9 #[.agg #[.string ((rd_T24 l0 a0).f0), .string ((rd_T24 l0 a0).f1)], .int .i64 a3] ?_; (with_reducible refine (laws_szFile.calls ((rd_T24 l0 a0).f0) ((rd_T24 l0 a0).f1) a3 a9 _ A7.out).mono ?_); rintro e w9 ⟨rfl, hb⟩; refine ⟨_, rfl, ?_⟩; replace HB := zA (below_step (zB) hb); (try clear hb)))
       go_ret
       exact ⟨zE, zB⟩
      have H' := zA H; clear H; have a4 : 0 ≤ (a0 : Int) := zD; have a5 : a0 < (l0.length : Int) := zD; obtain ⟨c1, b0, a6, a7⟩ := at_T24 b3.out a0 a4 a5; cases b0; replace a6 := zx HB a6; replace a7 := zx HB a7; replace a4 := eq_true a4; replace a5 := eq_true a5
      go_wp2_with (first | ((with_reducible refine zq 9 ?_); refine zg (some 23) Tryd.func9 #[.agg #[.string ((rd_T24 l0 a0).f0), .string ((rd_T24 l0 a0).f1)], .int .i64 a3] ?_; (with_reducible refine (laws_szFile.calls ((rd_T24 l0 a0).f0) ((rd_T24 l0 a0).f1) a3 a9 _ A7.out).mono ?_); rintro e c6 ⟨rfl, hb⟩; refine ⟨_, rfl, ?_⟩; replace HB := zA (below_step (zB) hb); (try clear hb)))
      go_roundg k2
      case measure => have := b4.out; have := b6.out; omega
      case rel => exact ⟨(a9), (wrap64 (a0 + 1)), zS, zS, H', ⟨by have := b4.out; have := b6.out; omega⟩, ⟨zB⟩⟩
     obtain rfl := zm H
     go_wp2
     go_ret
     exact ⟨zE, zB⟩
/-! ### spec_Split: function 75 -/
def spec_Split.l0 : Nat → ByteArray → Int → List ByteArray → Int → Int → Option (List ByteArray)
 | 0, _, _, _, _, _ => none
 | k + 1, x0, x1, x5, x6, x7 => if x7 ≤ (x0.size : Int) then (if x7 = (x0.size : Int) then (if 0 ≤ x6 then (if x6 ≤ x7 then (if x5.length < 8796093022208 then (spec_Split.l0 k x0 x1 (x5 ++ [x0.extract (x6 : Int).toNat (x7 : Int).toNat]) (wrap64 (x7 + 1)) (wrap64 (x7 + 1))) else (none)) else (none)) else (none)) else (if 0 ≤ x7 then (if x7 < (x0.size : Int) then (if (bt x0 x7) = x1 then (if 0 ≤ x6 then (if x6 ≤ x7 then (if x5.length < 8796093022208 then (spec_Split.l0 k x0 x1 (x5 ++ [x0.extract (x6 : Int).toNat (x7 : Int).toNat]) (wrap64 (x7 + 1)) (wrap64 (x7 + 1))) else (none)) else (none)) else (none)) else (spec_Split.l0 k x0 x1 x5 x6 (wrap64 (x7 + 1)))) else (none)) else (none))) else (some x5)
def spec_Split.f (k : Nat) (a0 : ByteArray) (a1 : Int) : Option (List ByteArray) := spec_Split.l0 k a0 a1 (([] : List ByteArray)) 0 0
theorem spec_Split.calls (k : Nat) (a0 : ByteArray) (a1 : Int) (r : List ByteArray) (w : World) (h : spec_Split.f k a0 a1 = some r) :
  Calls Tryd.prog 75 #[.string a0, .int .u8 a1] w fun e w' => ∃ b6 : Value, e = .returned (b6) ∧ Kd.R Kd.string 9 w' w.heap.size (fun _ => True) b6 r ∧ Below w.heap.size w w' := by
 have HB := zA (Below.refl w.heap.size w)
 unfold spec_Split.f at h
 have H := h
 clear h
 obtain ⟨b7, b1⟩ : ∃ y_ : List ByteArray, y_ = (([] : List ByteArray)) := ⟨_, rfl⟩
 replace H : (spec_Split.l0 k a0 a1 b7 0 0) = some r := zY b1 H
 have b8 := zA b1
 clear b1
 have H' := zA H
 clear H
 go_enter Tryd.func75, Tryd.ntmps75
 go_wp2_with (first | ((with_reducible refine gate_dst (N := 8) rfl ?_); refine Kd.R_lit Kd.string _ 9 ?hg (N := 8) ?hd (xs := ([] : List ByteArray)) (inner := []) (ok := fun _ => True) ?hr ?hp (fun _ hk => hk) trivial (Below.refl _ _) (Nat.le_refl _) (by simp) ?_; (case hd => rfl); (case hg => rfl); (case hr => first | (go_simp; done) | (go_simp; rfl)); (case hp => exact (Reps.none _ _)); intro d9 w3 a8 hb hg_ hnew_; clear hg_ hnew_; (first | rw [← b8.out] at a8 | (simp only [Int.reduceToNat] at a8; rw [← b8.out] at a8)); have c3 := zA (Kd.R_lower a8 (below_size (zB))); replace HB := zA (below_step (zB) hb); clear hb a8))
 go_loopg [5, 6, 7] k (fun kq v5 v6 v7 w' => ∃ (a4 : List ByteArray) (a3 : Int) (a2 : Int), v6 = .int .i64 a3 ∧ v7 = .int .i64 a2 ∧ Aside0 (spec_Split.l0 kq a0 a1 a4 a3 a2 = some r) ∧ Aside0 (kq ≤ k) ∧ Aside0 (Kd.R Kd.string 9 w' w.heap.size (fun _ => True) v5 a4) ∧ Aside0 (Below w.heap.size w w'))
 case atStart => exact ⟨(b7), (0), (0), zS, zS, H', ⟨Nat.le_refl _⟩, ⟨zR c3.out⟩, ⟨zB⟩⟩
 case round =>
  clear H'
  try clear p2
  obtain ⟨a4, a3, a2, rfl, rfl, HA, a5, a6, HB⟩ := hrel
  cases gk with
  | zero => exact absurd HA.out (by simp [spec_Split.l0])
  | succ k1 =>
   have H := HA.out; clear HA; simp only [spec_Split.l0] at H; replace H := zI0 H
   rcases H with ⟨c4, H⟩ | ⟨c4, H⟩
   ·replace H := zI1 H
    rcases H with ⟨c6, H⟩ | ⟨c6, H⟩
    ·have c5 := beq_iff_eq.mpr c6; have c9 := bne_eq_false_iff_eq.mpr c6; clear c6; replace H := zC0 H; obtain ⟨c7, H⟩ := H; have e0 := eq_true c7; have e1 := decide_eq_true c7; clear c7; replace H := zC0 H; obtain ⟨c8, H⟩ := H; have e2 := eq_true c8; have e3 := decide_eq_true c8; clear c8; have e4 := eq_true (zD : a2 ≤ (a0.size : Int)); replace H := zC0 H; obtain ⟨b9, H⟩ := H; have d0 := zA b9; clear b9; obtain ⟨c0, b2⟩ : ∃ y_ : List ByteArray, y_ = (a4 ++ [a0.extract (a3 : Int).toNat (a2 : Int).toNat]) := ⟨_, rfl⟩; replace H : (spec_Split.l0 k1 a0 a1 c0 (wrap64 (a2 + 1)) (wrap64 (a2 + 1))) = some r := zY b2 H; have d1 := zA b2; clear b2; have H' := zA H; clear H
     go_wp2_with (first | ((with_reducible refine gate_builtin (b := .append) (xs := #[.tmp 26, .tmp 31]) rfl ?_); at_builtin; refine Kd.R_append Kd.string (w0 := w) w.heap.size rfl (.tmp 26) (.tmp 31) 47 9 (.string ⟨#[]⟩) 16 rfl Tryd.underlying47 info9 rfl (by decide) (by omega) u5 a4 (a0.extract (a3 : Int).toNat (a2 : Int).toNat) [.string (a0.extract (a3 : Int).toNat (a2 : Int).toNat)] (fun _ => True) (fun _ => False) rfl rfl ?aP (fun _ hk => hk.elim) ?aF ?aO ?aB ?aS ?aL ?_; (case aP => exact rfl); (case aB => exact (zB)); (case aF => exact (fun _ _ => trivial)); (case aO => exact (zR a6.out)); (case aS => exact (below_size (zB))); (case aL => have := d0.out; omega); intro e5 e6 ho hb hg hat; rw [← d1.out] at ho; replace HB := zA (hb); have d2 := zA (ho); clear a6; clear ho hb hg hat))
     go_roundg k1
     case measure => have := a5.out; omega
     case rel => exact ⟨(c0), (wrap64 (a2 + 1)), (wrap64 (a2 + 1)), zS, zS, H', ⟨by have := a5.out; omega⟩, ⟨zR d2.out⟩, ⟨zB⟩⟩
    have c5 := beq_eq_false_iff_ne.mpr c6; have c9 := bne_iff_ne.mpr c6; replace H := zD0 H; obtain ⟨e7, H⟩ := H; replace H := zD0 H; obtain ⟨e8, H⟩ := H; replace H := zI1 H
    rcases H with ⟨a7, H⟩ | ⟨a7, H⟩
    ·have d3 := beq_iff_eq.mpr a7; have d4 := bne_eq_false_iff_eq.mpr a7; clear a7; replace H := zC0 H; obtain ⟨b3, H⟩ := H; have e9 := eq_true b3; have f0 := decide_eq_true b3; clear b3; replace H := zC0 H; obtain ⟨b4, H⟩ := H; have f1 := eq_true b4; have f2 := decide_eq_true b4; clear b4; have f3 := eq_true (zD : a2 ≤ (a0.size : Int)); replace H := zC0 H; obtain ⟨c1, H⟩ := H; have d5 := zA c1; clear c1; obtain ⟨c2, b5⟩ : ∃ y_ : List ByteArray, y_ = (a4 ++ [a0.extract (a3 : Int).toNat (a2 : Int).toNat]) := ⟨_, rfl⟩; replace H : (spec_Split.l0 k1 a0 a1 c2 (wrap64 (a2 + 1)) (wrap64 (a2 + 1))) = some r := zY b5 H; have d6 := zA b5; clear b5; have H' := zA H; clear H; have a9 : 0 ≤ (a2 : Int) := zD; have b0 : a2 < (a0.size : Int) := zD; have d7 := bt_at a0 a2; replace a9 := eq_true a9; replace b0 := eq_true b0
     go_wp2_with (first | ((with_reducible refine gate_builtin (b := .append) (xs := #[.tmp 26, .tmp 31]) rfl ?_); at_builtin; refine Kd.R_append Kd.string (w0 := w) w.heap.size rfl (.tmp 26) (.tmp 31) 47 9 (.string ⟨#[]⟩) 16 rfl Tryd.underlying47 info9 rfl (by decide) (by omega) u5 a4 (a0.extract (a3 : Int).toNat (a2 : Int).toNat) [.string (a0.extract (a3 : Int).toNat (a2 : Int).toNat)] (fun _ => True) (fun _ => False) rfl rfl ?aP (fun _ hk => hk.elim) ?aF ?aO ?aB ?aS ?aL ?_; (case aP => exact rfl); (case aB => exact (zB)); (case aF => exact (fun _ _ => trivial)); (case aO => exact (zR a6.out)); (case aS => exact (below_size (zB))); (case aL => have := d5.out; omega); intro f4 f5 ho hb hg hat; rw [← d6.out] at ho; replace HB := zA (hb); have d8 := zA (ho); clear a6; clear ho hb hg hat))
     go_roundg k1
     case measure => have := a5.out; omega
     case rel => exact ⟨(c2), (wrap64 (a2 + 1)), (wrap64 (a2 + 1)), zS, zS, H', ⟨by have := a5.out; omega⟩, ⟨zR d8.out⟩, ⟨zB⟩⟩
    have d3 := beq_eq_false_iff_ne.mpr a7; have d4 := bne_iff_ne.mpr a7; have H' := zA H; clear H; have a9 : 0 ≤ (a2 : Int) := zD; have b0 : a2 < (a0.size : Int) := zD; have d7 := bt_at a0 a2; replace a9 := eq_true a9; replace b0 := eq_true b0
    go_wp2
    go_roundg k1
    case measure => have := a5.out; omega
    case rel => exact ⟨(a4), (a3), (wrap64 (a2 + 1)), zS, zS, H', ⟨by have := a5.out; omega⟩, ⟨zR a6.out⟩, ⟨zB⟩⟩
   obtain rfl := zm H
   go_wp2
   go_ret
   exact ⟨_, zE, zR a6.out, zB⟩
/-! ### spec_l1In: function 84 -/
def spec_l1In.f (a0 a1 a2 : Int) : Option (Bool) := if a0 ≥ a1 then (some (decide (a0 ≤ a2))) else (some false)
theorem spec_l1In.calls (a0 a1 a2 : Int) (r : Bool) (w : World) (h : spec_l1In.f a0 a1 a2 = some r) :
  Calls Tryd.prog 84 #[.int .i64 a0, .int .i64 a1, .int .i64 a2] w fun e w' => e = .returned (.bool r) ∧ Drawn0 w w' := by
 unfold spec_l1In.f at h
 have H := h
 clear h
 replace H := zI1 H
 rcases H with ⟨c4, H⟩ | ⟨c4, H⟩
 ·have a3 : decide (a1 ≤ a0) = true := decide_eq_true c4; clear c4; obtain rfl := zm H
  go_enter Tryd.func84, Tryd.ntmps84
  go_wp2
  go_ret
  exact ⟨by first | rfl | (simp; done) | (simp [*]; done) | (simp; rw [Bool.eq_iff_iff]; simp; done), by repeat (first | exact Drawn0.refl _ | apply Drawn0.step)⟩
 have a3 : decide (a1 ≤ a0) = false := decide_eq_false c4
 clear c4
 obtain rfl := zm H
 go_enter Tryd.func84, Tryd.ntmps84
 go_wp2
 go_ret
 exact ⟨by first | rfl | (simp; done) | (simp [*]; done) | (simp; rw [Bool.eq_iff_iff]; simp; done), by repeat (first | exact Drawn0.refl _ | apply Drawn0.step)⟩
/-! ### spec_l1Digit: function 83 -/
def spec_l1Digit.f (a0 : Int) : Option (Bool) := (spec_l1In.f (wrap64 (a0)) 48 57).bind fun a1 => (some a1)
theorem spec_l1Digit.calls (a0 : Int) (r : Bool) (w : World) (h : spec_l1Digit.f a0 = some r) :
  Calls Tryd.prog 83 #[.int .u8 a0] w fun e w' => e = .returned (.bool r) ∧ Drawn0 w w' := by
 unfold spec_l1Digit.f at h
 have H := h
 clear h
 replace H := Option.bind_eq_some_iff.mp H
 obtain ⟨a2, a1, H⟩ := H
 try dsimp only at H
 have A2 := zA a1
 clear a1
 obtain rfl := zm H
 go_enter Tryd.func83, Tryd.ntmps83
 go_wp2_with (first | ((with_reducible refine zq 84 ?_); refine zg (some 5) Tryd.func84 #[.int .i64 (wrap64 (a0)), .int .i64 48, .int .i64 57] ?_; (with_reducible refine (spec_l1In.calls (wrap64 (a0)) 48 57 a2 _ A2.out).mono ?_); rintro e w' ⟨rfl, ⟨nd, rfl⟩⟩; refine ⟨_, rfl, ?_⟩))
 go_ret
 exact ⟨by first | rfl | (simp; done) | (simp [*]; done) | (simp; rw [Bool.eq_iff_iff]; simp; done), by repeat (first | exact Drawn0.refl _ | apply Drawn0.step)⟩
/-! ### spec_l1Small: function 128 -/
def spec_l1Small.f (a0 : Int) : Option (Bool) := (spec_l1In.f (wrap64 (a0)) 97 122).bind fun a1 => (some a1)
theorem spec_l1Small.calls (a0 : Int) (r : Bool) (w : World) (h : spec_l1Small.f a0 = some r) :
  Calls Tryd.prog 128 #[.int .u8 a0] w fun e w' => e = .returned (.bool r) ∧ Drawn0 w w' := by
 unfold spec_l1Small.f at h
 have H := h
 clear h
 replace H := Option.bind_eq_some_iff.mp H
 obtain ⟨a2, a1, H⟩ := H
 try dsimp only at H
 have A2 := zA a1
 clear a1
 obtain rfl := zm H
 go_enter Tryd.func128, Tryd.ntmps128
 go_wp2_with (first | ((with_reducible refine zq 84 ?_); refine zg (some 5) Tryd.func84 #[.int .i64 (wrap64 (a0)), .int .i64 97, .int .i64 122] ?_; (with_reducible refine (spec_l1In.calls (wrap64 (a0)) 97 122 a2 _ A2.out).mono ?_); rintro e w' ⟨rfl, ⟨nd, rfl⟩⟩; refine ⟨_, rfl, ?_⟩))
 go_ret
 exact ⟨by first | rfl | (simp; done) | (simp [*]; done) | (simp; rw [Bool.eq_iff_iff]; simp; done), by repeat (first | exact Drawn0.refl _ | apply Drawn0.step)⟩
/-! ### spec_l5Letter: function 108 -/
def spec_l5Letter.f (a0 : Int) : Option (Bool) := (spec_l1Small.f a0).bind fun a1 => (if a1 = true then (some true) else ((spec_l1Digit.f a0).bind fun a2 => (if a2 = true then (some true) else (if a0 = 46 then (some true) else (if a0 = 45 then (some true) else (some (a0 == 95)))))))
theorem spec_l5Letter.calls (a0 : Int) (r : Bool) (w : World) (h : spec_l5Letter.f a0 = some r) :
  Calls Tryd.prog 108 #[.int .u8 a0] w fun e w' => e = .returned (.bool r) ∧ Drawn0 w w' := by
 unfold spec_l5Letter.f at h
 have H := h
 clear h
 replace H := Option.bind_eq_some_iff.mp H
 obtain ⟨a7, a1, H⟩ := H
 try dsimp only at H
 have A2 := zA a1
 clear a1
 replace H := zB0 H
 rcases H with ⟨rfl, H⟩ | ⟨rfl, H⟩
 ·obtain rfl := zm H
  go_enter Tryd.func108, Tryd.ntmps108
  go_wp2_with (first | ((with_reducible refine zq 128 ?_); refine zg (some 4) Tryd.func128 #[.int .u8 a0] ?_; (with_reducible refine (spec_l1Small.calls a0 true _ A2.out).mono ?_); rintro e w' ⟨rfl, ⟨nd, rfl⟩⟩; refine ⟨_, rfl, ?_⟩))
  go_ret
  exact ⟨by first | rfl | (simp; done) | (simp [*]; done) | (simp; rw [Bool.eq_iff_iff]; simp; done), by repeat (first | exact Drawn0.refl _ | apply Drawn0.step)⟩
 replace H := Option.bind_eq_some_iff.mp H
 obtain ⟨a8, a2, H⟩ := H
 try dsimp only at H
 have A4 := zA a2
 clear a2
 replace H := zB0 H
 rcases H with ⟨rfl, H⟩ | ⟨rfl, H⟩
 ·obtain rfl := zm H
  go_enter Tryd.func108, Tryd.ntmps108
  go_wp2_with (first | ((with_reducible refine zq 128 ?_); refine zg (some 4) Tryd.func128 #[.int .u8 a0] ?_; (with_reducible refine (spec_l1Small.calls a0 false _ A2.out).mono ?_); rintro e w' ⟨rfl, ⟨nd, rfl⟩⟩; refine ⟨_, rfl, ?_⟩) | (go_at_call 83; (with_reducible refine (spec_l1Digit.calls a0 true _ A4.out).mono ?_); rintro e w' ⟨rfl, ⟨nd, rfl⟩⟩))
  go_ret
  exact ⟨by first | rfl | (simp; done) | (simp [*]; done) | (simp; rw [Bool.eq_iff_iff]; simp; done), by repeat (first | exact Drawn0.refl _ | apply Drawn0.step)⟩
 replace H := zI1 H
 rcases H with ⟨c6, H⟩ | ⟨c6, H⟩
 ·have a3 := beq_iff_eq.mpr c6; have a4 := bne_eq_false_iff_eq.mpr c6; clear c6; obtain rfl := zm H
  go_enter Tryd.func108, Tryd.ntmps108
  go_wp2_with (first | ((with_reducible refine zq 128 ?_); refine zg (some 4) Tryd.func128 #[.int .u8 a0] ?_; (with_reducible refine (spec_l1Small.calls a0 false _ A2.out).mono ?_); rintro e w' ⟨rfl, ⟨nd, rfl⟩⟩; refine ⟨_, rfl, ?_⟩) | (go_at_call 83; (with_reducible refine (spec_l1Digit.calls a0 false _ A4.out).mono ?_); rintro e w' ⟨rfl, ⟨nd, rfl⟩⟩))
  go_ret
  exact ⟨by first | rfl | (simp; done) | (simp [*]; done) | (simp; rw [Bool.eq_iff_iff]; simp; done), by repeat (first | exact Drawn0.refl _ | apply Drawn0.step)⟩
 have a3 := beq_eq_false_iff_ne.mpr c6
 have a4 := bne_iff_ne.mpr c6
 replace H := zI1 H
 rcases H with ⟨c7, H⟩ | ⟨c7, H⟩
 ·have a5 := beq_iff_eq.mpr c7; have a6 := bne_eq_false_iff_eq.mpr c7; clear c7; obtain rfl := zm H
  go_enter Tryd.func108, Tryd.ntmps108
  go_wp2_with (first | ((with_reducible refine zq 128 ?_); refine zg (some 4) Tryd.func128 #[.int .u8 a0] ?_; (with_reducible refine (spec_l1Small.calls a0 false _ A2.out).mono ?_); rintro e w' ⟨rfl, ⟨nd, rfl⟩⟩; refine ⟨_, rfl, ?_⟩) | (go_at_call 83; (with_reducible refine (spec_l1Digit.calls a0 false _ A4.out).mono ?_); rintro e w' ⟨rfl, ⟨nd, rfl⟩⟩))
  go_ret
  exact ⟨by first | rfl | (simp; done) | (simp [*]; done) | (simp; rw [Bool.eq_iff_iff]; simp; done), by repeat (first | exact Drawn0.refl _ | apply Drawn0.step)⟩
 have a5 := beq_eq_false_iff_ne.mpr c7
 have a6 := bne_iff_ne.mpr c7
 obtain rfl := zm H
 go_enter Tryd.func108, Tryd.ntmps108
 go_wp2_with (first | ((with_reducible refine zq 128 ?_); refine zg (some 4) Tryd.func128 #[.int .u8 a0] ?_; (with_reducible refine (spec_l1Small.calls a0 false _ A2.out).mono ?_); rintro e w' ⟨rfl, ⟨nd, rfl⟩⟩; refine ⟨_, rfl, ?_⟩) | (go_at_call 83; (with_reducible refine (spec_l1Digit.calls a0 false _ A4.out).mono ?_); rintro e w' ⟨rfl, ⟨nd, rfl⟩⟩))
 go_ret
 exact ⟨by first | rfl | (simp; done) | (simp [*]; done) | (simp; rw [Bool.eq_iff_iff]; simp; done), by repeat (first | exact Drawn0.refl _ | apply Drawn0.step)⟩
/-! ### spec_l5Name: function 76 -/
def spec_l5Name.l0 : Nat → ByteArray → Int → Option (Bool)
 | 0, _, _ => none
 | k + 1, x0, x3 => if x3 < (x0.size : Int) then (if 0 ≤ x3 then ((spec_l5Letter.f (bt x0 x3)).bind fun a0 => (if a0 = true then (spec_l5Name.l0 k x0 (wrap64 (x3 + 1))) else (some false))) else (none)) else ((spec_l1In.f (x0.size : Int) 1 12).bind fun a1 => (if a1 = true then (if x0.toList = ([46] : List UInt8) then (some false) else (some (x0.toList != ([46, 46] : List UInt8)))) else (some false)))
def spec_l5Name.f (k : Nat) (a0 : ByteArray) : Option (Bool) := spec_l5Name.l0 k a0 0
theorem spec_l5Name.calls (k : Nat) (a0 : ByteArray) (r : Bool) (w : World) (h : spec_l5Name.f k a0 = some r) :
  Calls Tryd.prog 76 #[.string a0] w fun e w' => e = .returned (.bool r) ∧ Drawn0 w w' := by
 unfold spec_l5Name.f at h
 have H := h
 clear h
 have H' := zA H
 clear H
 go_enter Tryd.func76, Tryd.ntmps76
 go_wp2
 go_loopg [3] k (fun kq v3 w' => ∃ (a1 : Int), v3 = .int .i64 a1 ∧ Aside0 (spec_l5Name.l0 kq a0 a1 = some r) ∧ Aside0 (kq ≤ k) ∧ Drawn0 w w')
 case atStart => exact ⟨(0), zS, H', ⟨Nat.le_refl _⟩, by repeat (first | exact Drawn0.refl _ | apply Drawn0.step)⟩
 case round =>
  clear H'; obtain ⟨a1, rfl, HA, a2, ⟨m1, rfl⟩⟩ := hrel
  cases gk with
  | zero => exact absurd HA.out (by simp [spec_l5Name.l0])
  | succ k1 =>
   have H := HA.out; clear HA; simp only [spec_l5Name.l0] at H; replace H := zI0 H
   rcases H with ⟨a5, H⟩ | ⟨a5, H⟩
   ·replace H := zD0 H; obtain ⟨a9, H⟩ := H; replace H := Option.bind_eq_some_iff.mp H; obtain ⟨b0, a3, H⟩ := H
    try dsimp only at H
    have A5 := zA a3; clear a3; replace H := zB0 H
    rcases H with ⟨rfl, H⟩ | ⟨rfl, H⟩
    ·have H' := zA H; clear H; have p4 : 0 ≤ (a1 : Int) := zD; have q4 : a1 < (a0.size : Int) := zD; have a6 := bt_at a0 a1; replace p4 := eq_true p4; replace q4 := eq_true q4
     go_wp2_with (first | ((with_reducible refine zq 108 ?_); refine zg (some 13) Tryd.func108 #[.int .u8 (bt a0 a1)] ?_; (with_reducible refine (spec_l5Letter.calls (bt a0 a1) true _ A5.out).mono ?_); rintro e w' ⟨rfl, ⟨nd, rfl⟩⟩; refine ⟨_, rfl, ?_⟩))
     go_roundg k1
     case measure => have := a2.out; omega
     case rel => exact ⟨(wrap64 (a1 + 1)), zS, H', ⟨by have := a2.out; omega⟩, by repeat (first | exact Drawn0.refl _ | apply Drawn0.step)⟩
    obtain rfl := zm H; have p4 : 0 ≤ (a1 : Int) := zD; have q4 : a1 < (a0.size : Int) := zD; have a6 := bt_at a0 a1; replace p4 := eq_true p4; replace q4 := eq_true q4
    go_wp2_with (first | ((with_reducible refine zq 108 ?_); refine zg (some 13) Tryd.func108 #[.int .u8 (bt a0 a1)] ?_; (with_reducible refine (spec_l5Letter.calls (bt a0 a1) false _ A5.out).mono ?_); rintro e w' ⟨rfl, ⟨nd, rfl⟩⟩; refine ⟨_, rfl, ?_⟩))
    go_ret
    exact ⟨by first | rfl | (simp; done) | (simp [*]; done) | (simp; rw [Bool.eq_iff_iff]; simp; done), by repeat (first | exact Drawn0.refl _ | apply Drawn0.step)⟩
   replace H := Option.bind_eq_some_iff.mp H; obtain ⟨b1, a4, H⟩ := H
   try dsimp only at H
   have A7 := zA a4; clear a4; replace H := zB0 H
   rcases H with ⟨rfl, H⟩ | ⟨rfl, H⟩
   ·replace H := zI1 H
    rcases H with ⟨c9, H⟩ | ⟨c9, H⟩
    ·have a7 := beq_iff_eq.mpr c9; have a8 := bne_eq_false_iff_eq.mpr c9; clear c9; obtain rfl := zm H
     go_wp2_with (first | ((with_reducible refine zq 84 ?_); refine zg (some 17) Tryd.func84 #[.int .i64 (a0.size : Int), .int .i64 1, .int .i64 12] ?_; (with_reducible refine (spec_l1In.calls (a0.size : Int) 1 12 true _ A7.out).mono ?_); rintro e w' ⟨rfl, ⟨nd, rfl⟩⟩; refine ⟨_, rfl, ?_⟩))
     go_ret
     exact ⟨by first | rfl | (simp; done) | (simp [*]; done) | (simp; rw [Bool.eq_iff_iff]; simp; done), by repeat (first | exact Drawn0.refl _ | apply Drawn0.step)⟩
    have a7 := beq_eq_false_iff_ne.mpr c9; have a8 := bne_iff_ne.mpr c9; obtain rfl := zm H
    go_wp2_with (first | ((with_reducible refine zq 84 ?_); refine zg (some 17) Tryd.func84 #[.int .i64 (a0.size : Int), .int .i64 1, .int .i64 12] ?_; (with_reducible refine (spec_l1In.calls (a0.size : Int) 1 12 true _ A7.out).mono ?_); rintro e w' ⟨rfl, ⟨nd, rfl⟩⟩; refine ⟨_, rfl, ?_⟩))
    go_ret
    exact ⟨by first | rfl | (simp; done) | (simp [*]; done) | (simp; rw [Bool.eq_iff_iff]; simp; done), by repeat (first | exact Drawn0.refl _ | apply Drawn0.step)⟩
   obtain rfl := zm H
   go_wp2_with (first | ((with_reducible refine zq 84 ?_); refine zg (some 17) Tryd.func84 #[.int .i64 (a0.size : Int), .int .i64 1, .int .i64 12] ?_; (with_reducible refine (spec_l1In.calls (a0.size : Int) 1 12 false _ A7.out).mono ?_); rintro e w' ⟨rfl, ⟨nd, rfl⟩⟩; refine ⟨_, rfl, ?_⟩))
   go_ret
   exact ⟨by first | rfl | (simp; done) | (simp [*]; done) | (simp; rw [Bool.eq_iff_iff]; simp; done), by repeat (first | exact Drawn0.refl _ | apply Drawn0.step)⟩
/-! ### spec_PathOk: function 29 -/
def spec_PathOk.l0 : Nat → List ByteArray → Int → Option (Bool)
 | 0, _, _ => none
 | k + 1, x3, x4 => if x4 < (x3.length : Int) then (if 0 ≤ x4 then ((spec_l5Name.f k (rdOf ByteArray.empty x3 x4)).bind fun a0 => (if a0 = true then (spec_PathOk.l0 k x3 (wrap64 (x4 + 1))) else (some false))) else (none)) else (some (decide ((x3.length : Int) ≤ 4)))
def spec_PathOk.f (k : Nat) (a0 : ByteArray) : Option (Bool) := (spec_Split.f k a0 47).bind fun a1 => (spec_PathOk.l0 k a1 0)
theorem spec_PathOk.calls (k : Nat) (a0 : ByteArray) (r : Bool) (w : World) (h : spec_PathOk.f k a0 = some r) :
  Calls Tryd.prog 29 #[.string a0] w fun e w' => e = .returned (.bool r) ∧ Below w.heap.size w w' := by
 have HB := zA (Below.refl w.heap.size w)
 unfold spec_PathOk.f at h
 have H := h
 clear h
 replace H := Option.bind_eq_some_iff.mp H
 obtain ⟨a2, a7, H⟩ := H
 try dsimp only at H
 have A2 := zA a7
 clear a7
 have H' := zA H
 clear H
 go_enter Tryd.func29, Tryd.ntmps29
 go_wp2_with (first | ((with_reducible refine zq 75 ?_); refine zg (some 6) Tryd.func75 #[.string a0, .int .u8 47] ?_; (with_reducible refine (spec_Split.calls k a0 47 a2 _ A2.out).mono ?_); rintro e w3 ⟨b1, rfl, a8, hb⟩; refine ⟨_, rfl, ?_⟩; have b2 := zA (Kd.R_lower a8 (below_size (zB))); replace HB := zA (below_step (zB) hb); (try clear hb a8)))
 go_loopg [4] k (fun kq v4 w' => ∃ (a1 : Int), v4 = .int .i64 a1 ∧ Aside0 (spec_PathOk.l0 kq a2 a1 = some r) ∧ Aside0 (kq ≤ k) ∧ Aside0 (Kd.R Kd.string 9 w' w.heap.size (fun _ => True) b1 a2) ∧ Aside0 (Below w.heap.size w w'))
 case atStart => exact ⟨(0), zS, H', ⟨Nat.le_refl _⟩, ⟨zR b2.out⟩, ⟨zB⟩⟩
 case round =>
  clear H'
  try clear c2
  try clear p2
  obtain ⟨a1, rfl, HA, a9, a5, HB⟩ := hrel
  cases gk with
  | zero => exact absurd HA.out (by simp [spec_PathOk.l0])
  | succ k1 =>
   have H := HA.out; clear HA; simp only [spec_PathOk.l0] at H; replace H := zI0 H
   rcases H with ⟨b3, H⟩ | ⟨b3, H⟩
   ·replace H := zD0 H; obtain ⟨b9, H⟩ := H; replace H := Option.bind_eq_some_iff.mp H; obtain ⟨c0, b0, H⟩ := H
    try dsimp only at H
    have A6 := zA b0; clear b0; replace H := zB0 H
    rcases H with ⟨rfl, H⟩ | ⟨rfl, H⟩
    ·have H' := zA H; clear H; obtain ⟨c1, c3, b4⟩ := Kd.R_slice a5.out; subst b4; have a3 : 0 ≤ (a1 : Int) := zD; have a4 : a1 < (a2.length : Int) := zD; obtain ⟨b5, a6, b6⟩ := Kd.at_string (Kd.R_reads' a5.out).2.2 a1 a3 a4; cases a6; replace a3 := eq_true a3; replace a4 := eq_true a4
     go_wp2_with (first | ((with_reducible refine zq 76 ?_); refine zg (some 17) Tryd.func76 #[.string (rdOf ByteArray.empty a2 a1)] ?_; (with_reducible refine (spec_l5Name.calls k1 (rdOf ByteArray.empty a2 a1) true _ A6.out).mono ?_); rintro e w' ⟨rfl, ⟨nd, rfl⟩⟩; refine ⟨_, rfl, ?_⟩))
     go_roundg k1
     case measure => have := a9.out; omega
     case rel => exact ⟨(wrap64 (a1 + 1)), zS, H', ⟨by have := a9.out; omega⟩, ⟨zR a5.out⟩, ⟨zB⟩⟩
    obtain rfl := zm H; obtain ⟨c4, c5, b7⟩ := Kd.R_slice a5.out; subst b7; have a3 : 0 ≤ (a1 : Int) := zD; have a4 : a1 < (a2.length : Int) := zD; obtain ⟨b5, a6, b6⟩ := Kd.at_string (Kd.R_reads' a5.out).2.2 a1 a3 a4; cases a6; replace a3 := eq_true a3; replace a4 := eq_true a4
    go_wp2_with (first | ((with_reducible refine zq 76 ?_); refine zg (some 17) Tryd.func76 #[.string (rdOf ByteArray.empty a2 a1)] ?_; (with_reducible refine (spec_l5Name.calls k1 (rdOf ByteArray.empty a2 a1) false _ A6.out).mono ?_); rintro e w' ⟨rfl, ⟨nd, rfl⟩⟩; refine ⟨_, rfl, ?_⟩))
    go_ret
    exact ⟨zE, zB⟩
   obtain rfl := zm H; obtain ⟨c6, c7, b8⟩ := Kd.R_slice a5.out; subst b8
   go_wp2
   go_ret
   exact ⟨zE, zB⟩
/-! ### spec_FilesOk: function 31 -/
def spec_FilesOk.l0 : Nat → List (S31) → Int → Option (Bool)
 | 0, _, _ => none
 | k + 1, x0, x3 => if x3 < (x0.length : Int) then (if 0 ≤ x3 then ((spec_PathOk.f k ((rd_T31 x0 x3).f0)).bind fun a0 => (if a0 = true then (if (((rd_T31 x0 x3).f1).size : Int) > 60 then (some false) else (if x3 > 0 then (if 0 ≤ (wrap64 (x3 - 1)) then (if (wrap64 (x3 - 1)) < (x0.length : Int) then (if ((Op.bytesLess (((rd_T31 x0 (wrap64 (x3 - 1))).f0).toList) (((rd_T31 x0 x3).f0).toList)) = true) then (spec_FilesOk.l0 k x0 (wrap64 (x3 + 1))) else (some false)) else (none)) else (none)) else (spec_FilesOk.l0 k x0 (wrap64 (x3 + 1))))) else (some false))) else (none)) else (some (decide ((x0.length : Int) ≤ 30)))
def spec_FilesOk.f (k : Nat) (l0 : List (S31)) : Option (Bool) := spec_FilesOk.l0 k l0 0
def spec_FilesOk.T4 : Bool × List (List Nat × List Nat) := (true, [([], []), ([], []), ([0, 1], [0, 1]), ([2], [2]), ([3], [3]), ([4], [4]), ([5], [5]), ([6, 5], [6]), ([7], [7]), ([7], [7]), ([8, 9, 7], [7, 8, 9]), ([10, 7], [7, 10]), ([11, 7], [7, 11]), ([12, 7], [7, 12]), ([13, 7], [7, 13]), ([7, 14], [7, 14]), ([15, 7], [15]), ([16], [16]), ([17, 16], [16, 17]), ([18, 16, 16], [16, 18]), ([19], [19]), ([19], [19]), ([21, 19], [19, 21]), ([20, 22, 19], [19, 20, 22]), ([23, 19], [19, 23]), ([24, 19], [19, 24]), ([19], [19]), ([19], [19]), ([26, 27, 19], [19, 26, 27]), ([28, 19], [19, 28]), ([29, 19], [19, 29]), ([25, 30, 19], [19, 25, 30]), ([19, 31, 16], [16, 19, 31]), ([16, 32], [16, 32])])
def spec_FilesOk.B4 : List Nat := [0, 0, 3, 7, 15, 31, 63, 127, 255, 255, 1023, 2047, 4095, 8191, 16383, 32767, 65535, 131071, 262143, 524287, 1048575, 1048575, 3145727, 8388607, 16777215, 33554431, 1048575, 1048575, 202375167, 470810623, 1007681535, 2147483647, 4294967295, 8589934591]
theorem spec_FilesOk.tab4 : rtab .any (opsOf Tryd.f31 4) = spec_FilesOk.T4 := by kernel_rfl
theorem spec_FilesOk.bits4 : waitsOk spec_FilesOk.T4.2 spec_FilesOk.B4 = true := by kernel_rfl
theorem spec_FilesOk.calls (k : Nat) (A0 : Option Addr) (c0 : Nat) (l0 : List (S31)) (r : Bool) (w : World) (d7 : Kd.C k31 w A0 l0.length l0) (d8 : l0.length ≤ c0) (h : spec_FilesOk.f k l0 = some r) :
  Calls Tryd.prog 31 #[.slice A0 l0.length c0] w fun e w' => e = .returned (.bool r) ∧ Below w.heap.size w w' := by
 have b1 := zA d7
 have e9 := zA d8
 clear d7 d8
 have HB := zA (Below.refl w.heap.size w)
 unfold spec_FilesOk.f at h
 have H := h
 clear h
 have H' := zA H
 clear H
 go_enter Tryd.func31, Tryd.ntmps31
 go_wp2
 go_loopg [3] k (fun kq v3 w' => ∃ (a0 : Int), v3 = .int .i64 a0 ∧ Aside0 (spec_FilesOk.l0 kq l0 a0 = some r) ∧ Aside0 (kq ≤ k) ∧ Aside0 (Below w.heap.size w w'))
 case atStart => exact ⟨(0), zS, H', ⟨Nat.le_refl _⟩, ⟨zB⟩⟩
 case round =>
  clear H'; obtain ⟨a0, rfl, HA, c7, HB⟩ := hrel
  cases gk with
  | zero => exact absurd HA.out (by simp [spec_FilesOk.l0])
  | succ k1 =>
   have H := HA.out; clear HA; simp only [spec_FilesOk.l0] at H; replace H := zI0 H
   rcases H with ⟨e0, H⟩ | ⟨e0, H⟩
   ·replace H := zD0 H; obtain ⟨f2, H⟩ := H; replace H := Option.bind_eq_some_iff.mp H; obtain ⟨f3, d9, H⟩ := H
    try dsimp only at H
    have A4 := zA d9; clear d9; replace H := zB0 H
    rcases H with ⟨rfl, H⟩ | ⟨rfl, H⟩
    ·replace H := zI1 H
     rcases H with ⟨c6, H⟩ | ⟨c6, H⟩
     ·have e1 : decide (60 < (((rd_T31 l0 a0).f1).size : Int)) = true := decide_eq_true c6; have e2 : decide (60 < ((rd_T31 l0 a0).f1).size) = true := decide_eq_true (by omega); clear c6; obtain rfl := zm H
      try go_wp2
      replace HB := zA (below_drew1 HB.out); have a5 : 0 ≤ (a0 : Int) := zD; have a6 : a0 < (l0.length : Int) := zD; obtain ⟨a1, b2, a2, a3⟩ := at_T31 b1.out a0 a5 a6; have c8 := a3; have d0 := a2; cases b2; replace a2 := zx HB a2; replace a3 := zx HB a3; replace a5 := eq_true a5; replace a6 := eq_true a6; have a9 : 0 ≤ (a0 : Int) := zD; have b0 : a0 < (l0.length : Int) := zD; obtain ⟨b7, b8, a7, a8⟩ := at_T31 b1.out a0 a9 b0; have d1 := a8; have d2 := a7; obtain rfl : a1 = b7 := (by injection b8); replace a7 := zx HB a7; replace a8 := zx HB a8; replace a9 := eq_true a9; replace b0 := eq_true b0
      refine start_ (n := 34) (S := fun w' => w'.cell? (a1.add ((a0).toNat * 2)) = some (.string ((rd_T31 l0 a0).f0)) ∧ w'.cell? ⟨(a1.add ((a0).toNat * 2)).block, (a1.add ((a0).toNat * 2)).off + 1, none⟩ = some (.string ((rd_T31 l0 a0).f1)) ∧ w'.cell? (a1.add ((a0).toNat * 2)) = some (.string ((rd_T31 l0 a0).f0)) ∧ w'.cell? ⟨(a1.add ((a0).toNat * 2)).block, (a1.add ((a0).toNat * 2)).off + 1, none⟩ = some (.string ((rd_T31 l0 a0).f1))) (ds := []) (Array.replicate 34 false) (by kernel_rfl) rfl rfl zO fun hHeld => ?_; refine with_tabW spec_FilesOk.tab4 spec_FilesOk.bits4 (fun HT_ HW_ => ?_)
      generalize wr.drew = w7 at HB a2 a3 a7 a8 hHeld ⊢; refine zp 0 10 ?_; refine zp 1 11 ?_; refine zp 2 12 ?_; refine zp 3 13 ?_; refine zt 4 14 ?_
      refine zo 5 (some 15) fun K hK => ?_
      refine goes_ Tryd.func29 (by kernel_rfl) rfl #[.string ((rd_T31 l0 a0).f0)] (by rfl) rfl rfl zM ?_
      with_reducible refine (spec_PathOk.calls k1 ((rd_T31 l0 a0).f0) true _ A4.out).mono ?_
      rintro e w8 ⟨rfl, hb⟩
      refine ⟨_, rfl, ?_⟩
      replace HB := zA (below_step (zB) hb)
      (try clear hb)
      refine hK.out _ _ zO fun hHeld => ?_
      clear hK K; refine zn ?_; refine zp 6 16 ?_; refine zp 7 17 ?_; refine zp 8 18 ?_; refine zp 9 19 ?_; refine zp 10 20 ?_; refine zp 11 21 ?_; refine zt 12 22 ?_; refine zp 13 23 ?_; refine zp 14 24 ?_; refine zp 15 25 ?_; refine zp 16 26 ?_; refine zu 17 27 ?_; refine zu 18 28 ?_; refine zu 19 29 ?_; refine zu 20 30 ?_; refine zu 21 31 ?_; refine zu 22 32 ?_; refine zu 23 33 ?_; refine zu 24 34 ?_; refine zu 25 35 ?_; refine zu 26 36 ?_; refine zu 27 37 ?_; refine zu 28 38 ?_; refine zu 29 39 ?_; refine zu 30 40 ?_; refine zu 31 41 ?_; refine zu 32 42 ?_; refine zp 33 43 ?_
      refine done_ (done_of HT_.out (by kernel_rfl)) ?_
      try go_wp2
      go_ret
      exact ⟨zE, zB⟩
     have e1 : decide (60 < (((rd_T31 l0 a0).f1).size : Int)) = false := decide_eq_false c6; have e2 : decide (60 < ((rd_T31 l0 a0).f1).size) = false := decide_eq_false (by omega); clear c6; replace H := zI1 H
     rcases H with ⟨c9, H⟩ | ⟨c9, H⟩
     ·have e3 : decide (0 < a0) = true := decide_eq_true c9; clear c9; obtain ⟨a4, c4⟩ : ∃ j_ : Int, (wrap64 (a0 - 1)) = j_ := ⟨_, rfl⟩
      replace H : (if 0 ≤ (a4) then (if (a4) < (l0.length : Int) then (if ((Op.bytesLess (((rd_T31 l0 (a4)).f0).toList) (((rd_T31 l0 a0).f0).toList)) = true) then (spec_FilesOk.l0 k1 l0 (wrap64 (a0 + 1))) else (some false)) else (none)) else (none)) = some r := by first | (rw [c4] at H; exact H) | (simp only [c4] at H ⊢; exact H)
      (try rw [c4] at A4)
      have hji10w : (IntKind.i64.wrap (a0 - 1)) = a4 := (i64_w _).trans c4; replace H := zD0 H; obtain ⟨f4, H⟩ := H; replace H := zD0 H; obtain ⟨f5, H⟩ := H; replace H := zI1 H
      rcases H with ⟨c5, H⟩ | ⟨c5, H⟩
      ·have e4 : (Op.bytesLess (((rd_T31 l0 (a4)).f0).toList) (((rd_T31 l0 a0).f0).toList)) = true := c5; clear c5; have H' := zA H; clear H
       try go_wp2
       replace HB := zA (below_drew1 HB.out); have a5 : 0 ≤ (a0 : Int) := zD; have a6 : a0 < (l0.length : Int) := zD; obtain ⟨a1, b2, a2, a3⟩ := at_T31 b1.out a0 a5 a6; have c8 := a3; have d0 := a2; cases b2; replace a2 := zx HB a2; replace a3 := zx HB a3; replace a5 := eq_true a5; replace a6 := eq_true a6; have a9 : 0 ≤ (a0 : Int) := zD; have b0 : a0 < (l0.length : Int) := zD; obtain ⟨b7, b8, a7, a8⟩ := at_T31 b1.out a0 a9 b0; have d1 := a8; have d2 := a7; obtain rfl : a1 = b7 := (by injection b8); replace a7 := zx HB a7; replace a8 := zx HB a8; replace a9 := eq_true a9; replace b0 := eq_true b0; have b9 : 0 ≤ ((a4) : Int) := zD; have c1 : (a4) < (l0.length : Int) := zD; obtain ⟨d3, d4, b3, b4⟩ := at_T31 b1.out (a4) b9 c1; have e5 := b4; have e6 := b3; obtain rfl : a1 = d3 := (by injection d4); replace b3 := zx HB b3; replace b4 := zx HB b4; replace b9 := eq_true b9; replace c1 := eq_true c1; have c2 : 0 ≤ (a0 : Int) := zD; have c3 : a0 < (l0.length : Int) := zD; obtain ⟨d5, d6, b5, b6⟩ := at_T31 b1.out a0 c2 c3; have e7 := b6; have e8 := b5; obtain rfl : a1 = d5 := (by injection d6); replace b5 := zx HB b5; replace b6 := zx HB b6; replace c2 := eq_true c2; replace c3 := eq_true c3
       refine start_ (n := 34) (S := fun w' => w'.cell? (a1.add ((a0).toNat * 2)) = some (.string ((rd_T31 l0 a0).f0)) ∧ w'.cell? ⟨(a1.add ((a0).toNat * 2)).block, (a1.add ((a0).toNat * 2)).off + 1, none⟩ = some (.string ((rd_T31 l0 a0).f1)) ∧ w'.cell? (a1.add ((a0).toNat * 2)) = some (.string ((rd_T31 l0 a0).f0)) ∧ w'.cell? ⟨(a1.add ((a0).toNat * 2)).block, (a1.add ((a0).toNat * 2)).off + 1, none⟩ = some (.string ((rd_T31 l0 a0).f1)) ∧ w'.cell? (a1.add (((a4)).toNat * 2)) = some (.string ((rd_T31 l0 (a4)).f0)) ∧ w'.cell? ⟨(a1.add (((a4)).toNat * 2)).block, (a1.add (((a4)).toNat * 2)).off + 1, none⟩ = some (.string ((rd_T31 l0 (a4)).f1)) ∧ w'.cell? (a1.add ((a0).toNat * 2)) = some (.string ((rd_T31 l0 a0).f0)) ∧ w'.cell? ⟨(a1.add ((a0).toNat * 2)).block, (a1.add ((a0).toNat * 2)).off + 1, none⟩ = some (.string ((rd_T31 l0 a0).f1))) (ds := []) (Array.replicate 34 false) (by kernel_rfl) rfl rfl zO fun hHeld => ?_; refine with_tabW spec_FilesOk.tab4 spec_FilesOk.bits4 (fun HT_ HW_ => ?_)
       generalize wr.drew = f6 at HB a2 a3 a7 a8 b3 b4 b5 b6 hHeld ⊢; refine zp 0 10 ?_; refine zp 1 11 ?_; refine zp 2 12 ?_; refine zp 3 13 ?_; refine zt 4 14 ?_
       refine zo 5 (some 15) fun K hK => ?_
       refine goes_ Tryd.func29 (by kernel_rfl) rfl #[.string ((rd_T31 l0 a0).f0)] (by rfl) rfl rfl zM ?_
       with_reducible refine (spec_PathOk.calls k1 ((rd_T31 l0 a0).f0) true _ A4.out).mono ?_
       rintro e f7 ⟨rfl, hb⟩
       refine ⟨_, rfl, ?_⟩
       replace HB := zA (below_step (zB) hb)
       (try clear hb)
       refine hK.out _ _ zO fun hHeld => ?_
       clear hK K; refine zn ?_; refine zp 6 16 ?_; refine zp 7 17 ?_; refine zp 8 18 ?_; refine zp 9 19 ?_; refine zp 10 20 ?_; refine zp 11 21 ?_; refine zt 12 22 ?_; refine zp 13 23 ?_; refine zp 14 24 ?_; refine zp 15 25 ?_; refine zp 16 26 ?_; refine zp 17 27 ?_; refine zp 18 28 ?_; refine zp 19 29 ?_; refine zp 20 30 ?_; refine zp 21 31 ?_; refine zp 22 32 ?_; refine zp 23 33 ?_; refine zp 24 34 ?_; refine zp 26 36 ?_; refine zp 27 37 ?_; refine zp 28 38 ?_; refine zp 29 39 ?_; refine zt 25 35 ?_; refine zt 30 40 ?_; refine zp 31 41 ?_; refine zp 32 42 ?_; refine zp 33 43 ?_
       refine done_ (done_of HT_.out (by kernel_rfl)) ?_
       try go_wp2
       go_roundg k1
       case measure => have := c7.out; omega
       case rel => exact ⟨(wrap64 (a0 + 1)), zS, H', ⟨by have := c7.out; omega⟩, ⟨zB⟩⟩
      have e4 : (Op.bytesLess (((rd_T31 l0 (a4)).f0).toList) (((rd_T31 l0 a0).f0).toList)) = false := by simpa using c5
      clear c5; obtain rfl := zm H
      try go_wp2
      replace HB := zA (below_drew1 HB.out); have a5 : 0 ≤ (a0 : Int) := zD; have a6 : a0 < (l0.length : Int) := zD; obtain ⟨a1, b2, a2, a3⟩ := at_T31 b1.out a0 a5 a6; have c8 := a3; have d0 := a2; cases b2; replace a2 := zx HB a2; replace a3 := zx HB a3; replace a5 := eq_true a5; replace a6 := eq_true a6; have a9 : 0 ≤ (a0 : Int) := zD; have b0 : a0 < (l0.length : Int) := zD; obtain ⟨b7, b8, a7, a8⟩ := at_T31 b1.out a0 a9 b0; have d1 := a8; have d2 := a7; obtain rfl : a1 = b7 := (by injection b8); replace a7 := zx HB a7; replace a8 := zx HB a8; replace a9 := eq_true a9; replace b0 := eq_true b0; have b9 : 0 ≤ ((a4) : Int) := zD; have c1 : (a4) < (l0.length : Int) := zD; obtain ⟨d3, d4, b3, b4⟩ := at_T31 b1.out (a4) b9 c1; have e5 := b4; have e6 := b3; obtain rfl : a1 = d3 := (by injection d4); replace b3 := zx HB b3; replace b4 := zx HB b4; replace b9 := eq_true b9; replace c1 := eq_true c1; have c2 : 0 ≤ (a0 : Int) := zD; have c3 : a0 < (l0.length : Int) := zD; obtain ⟨d5, d6, b5, b6⟩ := at_T31 b1.out a0 c2 c3; have e7 := b6; have e8 := b5; obtain rfl : a1 = d5 := (by injection d6); replace b5 := zx HB b5; replace b6 := zx HB b6; replace c2 := eq_true c2; replace c3 := eq_true c3
      refine start_ (n := 34) (S := fun w' => w'.cell? (a1.add ((a0).toNat * 2)) = some (.string ((rd_T31 l0 a0).f0)) ∧ w'.cell? ⟨(a1.add ((a0).toNat * 2)).block, (a1.add ((a0).toNat * 2)).off + 1, none⟩ = some (.string ((rd_T31 l0 a0).f1)) ∧ w'.cell? (a1.add ((a0).toNat * 2)) = some (.string ((rd_T31 l0 a0).f0)) ∧ w'.cell? ⟨(a1.add ((a0).toNat * 2)).block, (a1.add ((a0).toNat * 2)).off + 1, none⟩ = some (.string ((rd_T31 l0 a0).f1)) ∧ w'.cell? (a1.add (((a4)).toNat * 2)) = some (.string ((rd_T31 l0 (a4)).f0)) ∧ w'.cell? ⟨(a1.add (((a4)).toNat * 2)).block, (a1.add (((a4)).toNat * 2)).off + 1, none⟩ = some (.string ((rd_T31 l0 (a4)).f1)) ∧ w'.cell? (a1.add ((a0).toNat * 2)) = some (.string ((rd_T31 l0 a0).f0)) ∧ w'.cell? ⟨(a1.add ((a0).toNat * 2)).block, (a1.add ((a0).toNat * 2)).off + 1, none⟩ = some (.string ((rd_T31 l0 a0).f1))) (ds := []) (Array.replicate 34 false) (by kernel_rfl) rfl rfl zO fun hHeld => ?_; refine with_tabW spec_FilesOk.tab4 spec_FilesOk.bits4 (fun HT_ HW_ => ?_)
      generalize wr.drew = f8 at HB a2 a3 a7 a8 b3 b4 b5 b6 hHeld ⊢; refine zp 0 10 ?_; refine zp 1 11 ?_; refine zp 2 12 ?_; refine zp 3 13 ?_; refine zt 4 14 ?_
      refine zo 5 (some 15) fun K hK => ?_
      refine goes_ Tryd.func29 (by kernel_rfl) rfl #[.string ((rd_T31 l0 a0).f0)] (by rfl) rfl rfl zM ?_
      with_reducible refine (spec_PathOk.calls k1 ((rd_T31 l0 a0).f0) true _ A4.out).mono ?_
      rintro e f9 ⟨rfl, hb⟩
      refine ⟨_, rfl, ?_⟩
      replace HB := zA (below_step (zB) hb)
      (try clear hb)
      refine hK.out _ _ zO fun hHeld => ?_
      clear hK K; refine zn ?_; refine zp 6 16 ?_; refine zp 7 17 ?_; refine zp 8 18 ?_; refine zp 9 19 ?_; refine zp 10 20 ?_; refine zp 11 21 ?_; refine zt 12 22 ?_; refine zp 13 23 ?_; refine zp 14 24 ?_; refine zp 15 25 ?_; refine zp 16 26 ?_; refine zp 17 27 ?_; refine zp 18 28 ?_; refine zp 19 29 ?_; refine zp 20 30 ?_; refine zp 21 31 ?_; refine zp 22 32 ?_; refine zp 23 33 ?_; refine zp 24 34 ?_; refine zp 26 36 ?_; refine zp 27 37 ?_; refine zp 28 38 ?_; refine zp 29 39 ?_; refine zt 25 35 ?_; refine zt 30 40 ?_; refine zp 31 41 ?_; refine zp 32 42 ?_; refine zp 33 43 ?_
      refine done_ (done_of HT_.out (by kernel_rfl)) ?_
      try go_wp2
      go_ret
      exact ⟨by first | rfl | (simp [errW_none, errW_some] <;> rfl) | (simp only [← c4]; first | rfl | (simp [errW_none, errW_some] <;> rfl)) | (simp [*, errW_none, errW_some] <;> rfl), zB⟩
     have e3 : decide (0 < a0) = false := decide_eq_false c9; clear c9; have H' := zA H; clear H
     try go_wp2
     replace HB := zA (below_drew1 HB.out); have a5 : 0 ≤ (a0 : Int) := zD; have a6 : a0 < (l0.length : Int) := zD; obtain ⟨a1, b2, a2, a3⟩ := at_T31 b1.out a0 a5 a6; have c8 := a3; have d0 := a2; cases b2; replace a2 := zx HB a2; replace a3 := zx HB a3; replace a5 := eq_true a5; replace a6 := eq_true a6; have a9 : 0 ≤ (a0 : Int) := zD; have b0 : a0 < (l0.length : Int) := zD; obtain ⟨b7, b8, a7, a8⟩ := at_T31 b1.out a0 a9 b0; have d1 := a8; have d2 := a7; obtain rfl : a1 = b7 := (by injection b8); replace a7 := zx HB a7; replace a8 := zx HB a8; replace a9 := eq_true a9; replace b0 := eq_true b0
     refine start_ (n := 34) (S := fun w' => w'.cell? (a1.add ((a0).toNat * 2)) = some (.string ((rd_T31 l0 a0).f0)) ∧ w'.cell? ⟨(a1.add ((a0).toNat * 2)).block, (a1.add ((a0).toNat * 2)).off + 1, none⟩ = some (.string ((rd_T31 l0 a0).f1)) ∧ w'.cell? (a1.add ((a0).toNat * 2)) = some (.string ((rd_T31 l0 a0).f0)) ∧ w'.cell? ⟨(a1.add ((a0).toNat * 2)).block, (a1.add ((a0).toNat * 2)).off + 1, none⟩ = some (.string ((rd_T31 l0 a0).f1))) (ds := []) (Array.replicate 34 false) (by kernel_rfl) rfl rfl zO fun hHeld => ?_; refine with_tabW spec_FilesOk.tab4 spec_FilesOk.bits4 (fun HT_ HW_ => ?_)
     generalize wr.drew = g0 at HB a2 a3 a7 a8 hHeld ⊢; refine zp 0 10 ?_; refine zp 1 11 ?_; refine zp 2 12 ?_; refine zp 3 13 ?_; refine zt 4 14 ?_
     refine zo 5 (some 15) fun K hK => ?_
     refine goes_ Tryd.func29 (by kernel_rfl) rfl #[.string ((rd_T31 l0 a0).f0)] (by rfl) rfl rfl zM ?_
     with_reducible refine (spec_PathOk.calls k1 ((rd_T31 l0 a0).f0) true _ A4.out).mono ?_
     rintro e g1 ⟨rfl, hb⟩
     refine ⟨_, rfl, ?_⟩
     replace HB := zA (below_step (zB) hb)
     (try clear hb)
     refine hK.out _ _ zO fun hHeld => ?_
     clear hK K; refine zn ?_; refine zp 6 16 ?_; refine zp 7 17 ?_; refine zp 8 18 ?_; refine zp 9 19 ?_; refine zp 10 20 ?_; refine zp 11 21 ?_; refine zt 12 22 ?_; refine zp 13 23 ?_; refine zp 14 24 ?_; refine zp 15 25 ?_; refine zp 16 26 ?_; refine zp 17 27 ?_; refine zp 18 28 ?_; refine zp 19 29 ?_; refine zu 20 30 ?_; refine zu 21 31 ?_; refine zu 22 32 ?_; refine zu 23 33 ?_; refine zu 24 34 ?_; refine zu 25 35 ?_; refine zu 26 36 ?_; refine zu 27 37 ?_; refine zu 28 38 ?_; refine zu 29 39 ?_; refine zu 30 40 ?_; refine zu 31 41 ?_; refine zp 32 42 ?_; refine zp 33 43 ?_
     refine done_ (done_of HT_.out (by kernel_rfl)) ?_
     try go_wp2
     go_roundg k1
     case measure => have := c7.out; omega
     case rel => exact ⟨(wrap64 (a0 + 1)), zS, H', ⟨by have := c7.out; omega⟩, ⟨zB⟩⟩
    obtain rfl := zm H
    try go_wp2
    replace HB := zA (below_drew1 HB.out); have a5 : 0 ≤ (a0 : Int) := zD; have a6 : a0 < (l0.length : Int) := zD; obtain ⟨a1, b2, a2, a3⟩ := at_T31 b1.out a0 a5 a6; have c8 := a3; have d0 := a2; cases b2; replace a2 := zx HB a2; replace a3 := zx HB a3; replace a5 := eq_true a5; replace a6 := eq_true a6
    refine start_ (n := 34) (S := fun w' => w'.cell? (a1.add ((a0).toNat * 2)) = some (.string ((rd_T31 l0 a0).f0)) ∧ w'.cell? ⟨(a1.add ((a0).toNat * 2)).block, (a1.add ((a0).toNat * 2)).off + 1, none⟩ = some (.string ((rd_T31 l0 a0).f1))) (ds := []) (Array.replicate 34 false) (by kernel_rfl) rfl rfl zO fun hHeld => ?_; refine with_tabW spec_FilesOk.tab4 spec_FilesOk.bits4 (fun HT_ HW_ => ?_)
    generalize wr.drew = g2 at HB a2 a3 hHeld ⊢; refine zp 0 10 ?_; refine zp 1 11 ?_; refine zp 2 12 ?_; refine zp 3 13 ?_; refine zt 4 14 ?_
    refine zo 5 (some 15) fun K hK => ?_
    refine goes_ Tryd.func29 (by kernel_rfl) rfl #[.string ((rd_T31 l0 a0).f0)] (by rfl) rfl rfl zM ?_
    with_reducible refine (spec_PathOk.calls k1 ((rd_T31 l0 a0).f0) false _ A4.out).mono ?_
    rintro e g3 ⟨rfl, hb⟩
    refine ⟨_, rfl, ?_⟩
    replace HB := zA (below_step (zB) hb)
    (try clear hb)
    refine hK.out _ _ zO fun hHeld => ?_
    clear hK K; refine zn ?_; refine zp 6 16 ?_; refine zp 7 17 ?_; refine zu 8 18 ?_; refine zu 9 19 ?_; refine zu 10 20 ?_; refine zu 11 21 ?_; refine zu 12 22 ?_; refine zu 13 23 ?_; refine zu 14 24 ?_; refine zp 15 25 ?_; refine zp 16 26 ?_; refine zu 17 27 ?_; refine zu 18 28 ?_; refine zu 19 29 ?_; refine zu 20 30 ?_; refine zu 21 31 ?_; refine zu 22 32 ?_; refine zu 23 33 ?_; refine zu 24 34 ?_; refine zu 25 35 ?_; refine zu 26 36 ?_; refine zu 27 37 ?_; refine zu 28 38 ?_; refine zu 29 39 ?_; refine zu 30 40 ?_; refine zu 31 41 ?_; refine zu 32 42 ?_; refine zp 33 43 ?_
    refine done_ (done_of HT_.out (by kernel_rfl)) ?_
    try go_wp2
    go_ret
    exact ⟨zE, zB⟩
   obtain rfl := zm H
   go_wp2
   go_ret
   exact ⟨zE, zB⟩
/-! ### spec_l5Put: function 57 -/
mutual
def spec_l5Put.l0 : Nat → List (S31) → List (S31) → Bool → Int → ByteArray → ByteArray → Option ((List (S31)))
 | 0, _, _, _, _, _, _ => none
 | k + 1, x0, x5, x6, x7, a0, a1 => if x7 < (x0.length : Int) then (spec_l5Put.j1 k x0 x5 x6 x7 a0 a1) else (if x6 = true then (some x5) else (if x5.length < 4398046511104 then (some (x5 ++ [(⟨a0, a1⟩ : S31)])) else (none)))
def spec_l5Put.j1 : Nat → List (S31) → List (S31) → Bool → Int → ByteArray → ByteArray → Option ((List (S31)))
 | 0, _, _, _, _, _, _ => none
 | k + 1, x0, x5, x6, x7, a0, a1 => if 0 ≤ x7 then (if x7 < (x0.length : Int) then (if ((rd_T31 x0 x7).f0).toList = a0.toList then (spec_l5Put.l0 k x0 x5 x6 (wrap64 (x7 + 1)) a0 a1) else (if x6 = true then (if x5.length < 4398046511104 then (spec_l5Put.l0 k x0 (x5 ++ [(⟨(rd_T31 x0 x7).f0, (rd_T31 x0 x7).f1⟩ : S31)]) x6 (wrap64 (x7 + 1)) a0 a1) else (none)) else (if (Op.bytesLess a0.toList (((rd_T31 x0 x7).f0).toList)) = true then (if x5.length < 4398046511104 then ((some (x5 ++ [(⟨a0, a1⟩ : S31)] : List (S31))).bind fun a2 => (if a2.length < 4398046511104 then (spec_l5Put.l0 k x0 (a2 ++ [(⟨(rd_T31 x0 x7).f0, (rd_T31 x0 x7).f1⟩ : S31)]) true (wrap64 (x7 + 1)) a0 a1) else (none))) else (none)) else (if x5.length < 4398046511104 then (spec_l5Put.l0 k x0 (x5 ++ [(⟨(rd_T31 x0 x7).f0, (rd_T31 x0 x7).f1⟩ : S31)]) x6 (wrap64 (x7 + 1)) a0 a1) else (none))))) else (none)) else (none)
end
def spec_l5Put.f (k : Nat) (l0 : List (S31)) (a0 a1 : ByteArray) : Option ((List (S31))) := spec_l5Put.l0 k l0 (([] : List (S31))) false 0 a0 a1
theorem spec_l5Put.calls (k : Nat) (A0 : Option Addr) (c0 : Nat) (l0 : List (S31)) (a2 a3 : ByteArray) (r : List (S31)) (w : World) (h1 : Kd.C k31 w A0 l0.length l0) (h2 : l0.length ≤ c0) (h : spec_l5Put.f k l0 a2 a3 = some r) :
  Calls Tryd.prog 57 #[.slice A0 l0.length c0, .agg #[.string a2, .string a3]] w fun e w' => ∃ h3 : Value, e = .returned (h3) ∧ Kd.R k31 31 w' w.heap.size (fun _ => True) h3 r ∧ Below w.heap.size w w' := by
 have l3 := Tryd.underlying31
 have b0 := zA h1
 have l4 := zA h2
 clear h1 h2
 have HB := zA (Below.refl w.heap.size w)
 unfold spec_l5Put.f at h
 have H := h
 clear h
 obtain ⟨h4, e1⟩ : ∃ y_ : List (S31), y_ = (([] : List (S31))) := ⟨_, rfl⟩
 replace H : (spec_l5Put.l0 k l0 h4 false 0 a2 a3) = some r := zY e1 H
 have d0 := zA e1
 clear e1
 have H' := zA H
 clear H
 go_enter Tryd.func57, Tryd.ntmps57
 go_wp2_with (first | ((with_reducible refine zd 3 ?_); refine ze 3 31 #[.string a2, .string a3] ?_; intro a5 hg w3 hbox hb; have a1 := zA (hbox); have h5 := zi HB hg; have h6 := zi HB hg; replace HB := zA (below_step (zB) hb); clear hb hbox hg) | ((with_reducible refine gate_dst (N := 8) rfl ?_); refine Kd.R_lit k31 _ 31 ?hg (N := 8) ?hd (xs := ([] : List (S31))) (inner := []) (ok := fun _ => True) ?hr ?hp (fun _ hk => hk) trivial (Below.refl _ _) (Nat.le_refl _) (by simp) ?_; (case hd => rfl); (case hg => rfl); (case hr => first | (go_simp; done) | (go_simp; rfl)); (case hp => exact (Reps.none _ _)); intro h7 w4 a7 hb hg_ hnew_; clear hg_ hnew_; (first | rw [← d0.out] at a7 | (simp only [Int.reduceToNat] at a7; rw [← d0.out] at a7)); have e2 := zA (Kd.R_lower (Kd.R_newB a7 (g := a5) (o := .cells #[.string a2, .string a3] 31 (0, 0)) (zK a1.out)) (below_size (zW HB.out))); replace a1 := zb a1 hb; replace HB := zh HB hb; clear hb a7))
 repeat (go_quiet (first | ((with_reducible refine zd 3 ?_); refine ze 3 31 #[.string a2, .string a3] ?_; intro a5 hg w3 hbox hb; have a1 := zA (hbox); have h5 := zi HB hg; have h6 := zi HB hg; replace HB := zA (below_step (zB) hb); clear hb hbox hg) | ((with_reducible refine gate_dst (N := 8) rfl ?_); refine Kd.R_lit k31 _ 31 ?hg (N := 8) ?hd (xs := ([] : List (S31))) (inner := []) (ok := fun _ => True) ?hr ?hp (fun _ hk => hk) trivial (Below.refl _ _) (Nat.le_refl _) (by simp) ?_; (case hd => rfl); (case hg => rfl); (case hr => first | (go_simp; done) | (go_simp; rfl)); (case hp => exact (Reps.none _ _)); intro h7 w4 a7 hb hg_ hnew_; clear hg_ hnew_; (first | rw [← d0.out] at a7 | (simp only [Int.reduceToNat] at a7; rw [← d0.out] at a7)); have e2 := zA (Kd.R_lower (Kd.R_newB a7 (g := a5) (o := .cells #[.string a2, .string a3] 31 (0, 0)) (zK a1.out)) (below_size (zW HB.out))); replace a1 := zb a1 hb; replace HB := zh HB hb; clear hb a7)); try go_wp2_with (first | ((with_reducible refine zd 3 ?_); refine ze 3 31 #[.string a2, .string a3] ?_; intro a5 hg w3 hbox hb; have a1 := zA (hbox); have h5 := zi HB hg; have h6 := zi HB hg; replace HB := zA (below_step (zB) hb); clear hb hbox hg) | ((with_reducible refine gate_dst (N := 8) rfl ?_); refine Kd.R_lit k31 _ 31 ?hg (N := 8) ?hd (xs := ([] : List (S31))) (inner := []) (ok := fun _ => True) ?hr ?hp (fun _ hk => hk) trivial (Below.refl _ _) (Nat.le_refl _) (by simp) ?_; (case hd => rfl); (case hg => rfl); (case hr => first | (go_simp; done) | (go_simp; rfl)); (case hp => exact (Reps.none _ _)); intro h7 w4 a7 hb hg_ hnew_; clear hg_ hnew_; (first | rw [← d0.out] at a7 | (simp only [Int.reduceToNat] at a7; rw [← d0.out] at a7)); have e2 := zA (Kd.R_lower (Kd.R_newB a7 (g := a5) (o := .cells #[.string a2, .string a3] 31 (0, 0)) (zK a1.out)) (below_size (zW HB.out))); replace a1 := zb a1 hb; replace HB := zh HB hb; clear hb a7)))
 go_loopg [5, 6, 7] k (fun kq v5 v6 v7 w' => ∃ (a6 : List (S31)) (d4 : Bool) (a0 : Int), v6 = .bool d4 ∧ v7 = .int .i64 a0 ∧ Aside0 (spec_l5Put.l0 kq l0 a6 d4 a0 a2 a3 = some r) ∧ Aside0 (kq ≤ k) ∧ Aside0 (Kd.R k31 31 w' w.heap.size (fun k_ => k_ ≠ a5) v5 a6) ∧ Aside0 (w'.heap[a5]? = some (.cells #[.string a2, .string a3] 31 (0, 0))) ∧ Aside0 (Below w.heap.size w w'))
 case atStart => exact ⟨(h4), (false), (0), zS, zS, H', ⟨Nat.le_refl _⟩, ⟨zR (Kd.R_mono e2.out (fun _ hk => hk.2))⟩, ⟨zK a1.out⟩, ⟨zW HB.out⟩⟩
 case round =>
  clear H'
  try clear p2
  try clear c5
  obtain ⟨a6, d4, a0, rfl, rfl, HA, b7, a4, a1, HB⟩ := hrel
  cases gk with
  | zero => exact absurd HA.out (by simp [spec_l5Put.l0])
  | succ k1 =>
   have H := HA.out; clear HA; simp only [spec_l5Put.l0] at H; have e3 := zA H; clear H
   go_upto_if 12 with (fail)
   repeat (go_quiet (fail); go_upto_if 12 with (fail))
   go_cut [] (fun wc => ∃ (kq : Nat), Aside0 (spec_l5Put.j1 kq l0 a6 d4 a0 a2 a3 = some r) ∧ Aside0 (kq ≤ k1) ∧ Aside0 (Kd.R k31 31 wc w.heap.size (fun k_ => k_ ≠ a5) u5 a6) ∧ Aside0 (wc.heap[a5]? = some (.cells #[.string a2, .string a3] 31 (0, 0))) ∧ Aside0 (Below w.heap.size w wc))
   case first =>
    have H := e3.out; clear e3; replace H := zI0 H
    rcases H with ⟨d1, H⟩ | ⟨d1, H⟩
    ·(first | rw [d1] | (simp only [i64_w, i32_w]; rw [d1]) | skip)
     have H' := zA H; clear H
     go_wp2
     repeat (go_quiet (fail); try go_wp2)
     go_meet
     case rel => exact ⟨_, (by first | exact H' | (subst_vars; exact H')), ⟨by have := b7.out; first | omega | exact Nat.le_refl _⟩, ⟨zR a4.out⟩, ⟨zK a1.out⟩, ⟨zW HB.out⟩⟩
    (first | rw [d1] | (simp only [i64_w, i32_w]; rw [d1]) | skip)
    replace H := zB0 H
    rcases H with ⟨rfl, H⟩ | ⟨rfl, H⟩
    ·obtain rfl := zm H
     go_wp2
     repeat (go_quiet (fail); try go_wp2)
     go_ret
     exact ⟨_, zE, zR (Kd.R_mono a4.out (fun _ hk => trivial)), zW HB.out⟩
    replace H := zC0 H; obtain ⟨c9, H⟩ := H; have e4 := zA c9; clear c9; obtain ⟨j9, e5⟩ : ∃ y_ : List (S31), y_ = (a6 ++ [(⟨a2, a3⟩ : S31)]) := ⟨_, rfl⟩; replace H : (some j9) = some r := zY e5 H; have e6 := zA e5; clear e5; obtain rfl := zm H; obtain ⟨k0, k2, k3, k4⟩ := ze2 a1.out
    go_wp2_with (first | ((with_reducible refine gate_builtin (b := .append) (xs := #[.tmp 48, .tmp 50]) rfl ?_); at_builtin; refine Kd.R_append k31 (w0 := w) w.heap.size rfl (.tmp 48) (.tmp 50) 27 31 (.agg #[(.string ⟨#[]⟩), (.string ⟨#[]⟩)]) 32 rfl Tryd.underlying27 info31 rfl (by decide) (by omega) u5 a6 (⟨a2, a3⟩ : S31) [.string a2, .string a3] (fun k_ => k_ ≠ a5) (fun _ => False) rfl rfl ?aP (fun _ hk => hk.elim) ?aF ?aO ?aB ?aS ?aL ?_; (case aP => exact k31_mkM _ _ _ (⟨a2, a3⟩ : S31)); (case aB => exact (zW HB.out)); (case aF => exact (fun k_ hk => Kd.freshB (zK a1.out) k_ hk)); (case aO => exact (zR a4.out)); (case aS => exact (below_size (zW HB.out))); (case aL => have := e4.out; omega); intro h8 h9 ho hb hg hat; rw [← e6.out] at ho; replace a1 := zA (blk_grown (g := a5) (o := .cells #[.string a2, .string a3] 31 (0, 0)) (zK a1.out) hg (Kd.R_away a4.out (fun _ hk => hk))); replace HB := zA (hb); have e7 := zA (ho); clear a4; clear ho hb hg hat))
    repeat (go_quiet (first | ((with_reducible refine gate_builtin (b := .append) (xs := #[.tmp 48, .tmp 50]) rfl ?_); at_builtin; refine Kd.R_append k31 (w0 := w) w.heap.size rfl (.tmp 48) (.tmp 50) 27 31 (.agg #[(.string ⟨#[]⟩), (.string ⟨#[]⟩)]) 32 rfl Tryd.underlying27 info31 rfl (by decide) (by omega) u5 a6 (⟨a2, a3⟩ : S31) [.string a2, .string a3] (fun k_ => k_ ≠ a5) (fun _ => False) rfl rfl ?aP (fun _ hk => hk.elim) ?aF ?aO ?aB ?aS ?aL ?_; (case aP => exact k31_mkM _ _ _ (⟨a2, a3⟩ : S31)); (case aB => exact (zW HB.out)); (case aF => exact (fun k_ hk => Kd.freshB (zK a1.out) k_ hk)); (case aO => exact (zR a4.out)); (case aS => exact (below_size (zW HB.out))); (case aL => have := e4.out; omega); intro h8 h9 ho hb hg hat; rw [← e6.out] at ho; replace a1 := zA (blk_grown (g := a5) (o := .cells #[.string a2, .string a3] 31 (0, 0)) (zK a1.out) hg (Kd.R_away a4.out (fun _ hk => hk))); replace HB := zA (hb); have e7 := zA (ho); clear a4; clear ho hb hg hat)); try go_wp2_with (first | ((with_reducible refine gate_builtin (b := .append) (xs := #[.tmp 48, .tmp 50]) rfl ?_); at_builtin; refine Kd.R_append k31 (w0 := w) w.heap.size rfl (.tmp 48) (.tmp 50) 27 31 (.agg #[(.string ⟨#[]⟩), (.string ⟨#[]⟩)]) 32 rfl Tryd.underlying27 info31 rfl (by decide) (by omega) u5 a6 (⟨a2, a3⟩ : S31) [.string a2, .string a3] (fun k_ => k_ ≠ a5) (fun _ => False) rfl rfl ?aP (fun _ hk => hk.elim) ?aF ?aO ?aB ?aS ?aL ?_; (case aP => exact k31_mkM _ _ _ (⟨a2, a3⟩ : S31)); (case aB => exact (zW HB.out)); (case aF => exact (fun k_ hk => Kd.freshB (zK a1.out) k_ hk)); (case aO => exact (zR a4.out)); (case aS => exact (below_size (zW HB.out))); (case aL => have := e4.out; omega); intro h8 h9 ho hb hg hat; rw [← e6.out] at ho; replace a1 := zA (blk_grown (g := a5) (o := .cells #[.string a2, .string a3] 31 (0, 0)) (zK a1.out) hg (Kd.R_away a4.out (fun _ hk => hk))); replace HB := zA (hb); have e7 := zA (ho); clear a4; clear ho hb hg hat)))
    go_ret
    exact ⟨_, zE, zR (Kd.R_mono e7.out (fun _ hk => trivial)), zW HB.out⟩
   case rest =>
    clear e3
    try clear p2
    try clear c5
    try clear c7
    try clear d1
    try clear c8
    try clear c9
    try clear k0 k2 k3 k4
    try clear p2
    obtain ⟨kq, HA, b8, a4, a1, HB⟩ := hcut
    cases kq with
    | zero => exact absurd HA.out (by simp [spec_l5Put.j1])
    | succ b9 =>
     have H := HA.out; clear HA; simp only [spec_l5Put.j1] at H; replace H := zD0 H; obtain ⟨l5, H⟩ := H; replace H := zD0 H; obtain ⟨l6, H⟩ := H; replace H := zI1 H
     rcases H with ⟨d2, H⟩ | ⟨d2, H⟩
     ·have k5 := beq_iff_eq.mpr d2; have k6 := bne_eq_false_iff_eq.mpr d2; clear d2; have H' := zA H; clear H; have a8 : 0 ≤ (a0 : Int) := zD; have a9 : a0 < (l0.length : Int) := zD; obtain ⟨b6, c3, b1, b2⟩ := at_T31 b0.out a0 a8 a9; cases c3; replace b1 := zx HB b1; replace b2 := zx HB b2; replace a8 := eq_true a8; replace a9 := eq_true a9; obtain ⟨l7, l8, l9, m0⟩ := ze2 a1.out
      go_wp2
      repeat (go_quiet (fail); try go_wp2)
      go_roundg b9
      case measure => have := b7.out; have := b8.out; omega
      case rel => exact ⟨(a6), (d4), (wrap64 (a0 + 1)), zS, zS, H', ⟨by have := b7.out; have := b8.out; omega⟩, ⟨zR a4.out⟩, ⟨zK a1.out⟩, ⟨zW HB.out⟩⟩
     have k5 := beq_eq_false_iff_ne.mpr d2; have k6 := bne_iff_ne.mpr d2; replace H := zB0 H
     rcases H with ⟨rfl, H⟩ | ⟨rfl, H⟩
     ·replace H := zC0 H; obtain ⟨i0, H⟩ := H; have e8 := zA i0; clear i0; obtain ⟨i1, e9⟩ : ∃ y_ : List (S31), y_ = (a6 ++ [(⟨(rd_T31 l0 a0).f0, (rd_T31 l0 a0).f1⟩ : S31)]) := ⟨_, rfl⟩; replace H : (spec_l5Put.l0 b9 l0 i1 true (wrap64 (a0 + 1)) a2 a3) = some r := zY e9 H; have f2 := zA e9; clear e9; have H' := zA H; clear H; have a8 : 0 ≤ (a0 : Int) := zD; have a9 : a0 < (l0.length : Int) := zD; obtain ⟨b6, c3, b1, b2⟩ := at_T31 b0.out a0 a8 a9; cases c3; replace b1 := zx HB b1; replace b2 := zx HB b2; replace a8 := eq_true a8; replace a9 := eq_true a9; obtain ⟨m1, m2, m3, m4⟩ := ze2 a1.out; have f3 : 0 ≤ (a0 : Int) := zD; have f4 : a0 < (l0.length : Int) := zD; obtain ⟨k7, k8, i2, i3⟩ := at_T31 b0.out a0 f3 f4; obtain rfl : b6 = k7 := (by injection k8); replace i2 := zx HB i2; replace i3 := zx HB i3; replace f3 := eq_true f3; replace f4 := eq_true f4
      go_wp2_with (first | ((with_reducible refine gate_builtin (b := .append) (xs := #[.tmp 39, .tmp 44]) rfl ?_); at_builtin; refine Kd.R_append k31 (w0 := w) w.heap.size rfl (.tmp 39) (.tmp 44) 27 31 (.agg #[(.string ⟨#[]⟩), (.string ⟨#[]⟩)]) 32 rfl Tryd.underlying27 info31 rfl (by decide) (by omega) u5 a6 (⟨(rd_T31 l0 a0).f0, (rd_T31 l0 a0).f1⟩ : S31) [.string ((rd_T31 l0 a0).f0), .string ((rd_T31 l0 a0).f1)] (fun k_ => k_ ≠ a5) (fun _ => False) rfl rfl ?aP (fun _ hk => hk.elim) ?aF ?aO ?aB ?aS ?aL ?_; (case aP => exact k31_mkM _ _ _ (⟨(rd_T31 l0 a0).f0, (rd_T31 l0 a0).f1⟩ : S31)); (case aB => exact (zW HB.out)); (case aF => exact (fun k_ hk => Kd.freshB (zK a1.out) k_ hk)); (case aO => exact (zR a4.out)); (case aS => exact (below_size (zW HB.out))); (case aL => have := e8.out; omega); intro i4 i5 ho hb hg hat; rw [← f2.out] at ho; replace a1 := zA (blk_grown (g := a5) (o := .cells #[.string a2, .string a3] 31 (0, 0)) (zK a1.out) hg (Kd.R_away a4.out (fun _ hk => hk))); replace HB := zA (hb); have f5 := zA (ho); clear a4; clear ho hb hg hat))
      repeat (go_quiet (first | ((with_reducible refine gate_builtin (b := .append) (xs := #[.tmp 39, .tmp 44]) rfl ?_); at_builtin; refine Kd.R_append k31 (w0 := w) w.heap.size rfl (.tmp 39) (.tmp 44) 27 31 (.agg #[(.string ⟨#[]⟩), (.string ⟨#[]⟩)]) 32 rfl Tryd.underlying27 info31 rfl (by decide) (by omega) u5 a6 (⟨(rd_T31 l0 a0).f0, (rd_T31 l0 a0).f1⟩ : S31) [.string ((rd_T31 l0 a0).f0), .string ((rd_T31 l0 a0).f1)] (fun k_ => k_ ≠ a5) (fun _ => False) rfl rfl ?aP (fun _ hk => hk.elim) ?aF ?aO ?aB ?aS ?aL ?_; (case aP => exact k31_mkM _ _ _ (⟨(rd_T31 l0 a0).f0, (rd_T31 l0 a0).f1⟩ : S31)); (case aB => exact (zW HB.out)); (case aF => exact (fun k_ hk => Kd.freshB (zK a1.out) k_ hk)); (case aO => exact (zR a4.out)); (case aS => exact (below_size (zW HB.out))); (case aL => have := e8.out; omega); intro i4 i5 ho hb hg hat; rw [← f2.out] at ho; replace a1 := zA (blk_grown (g := a5) (o := .cells #[.string a2, .string a3] 31 (0, 0)) (zK a1.out) hg (Kd.R_away a4.out (fun _ hk => hk))); replace HB := zA (hb); have f5 := zA (ho); clear a4; clear ho hb hg hat)); try go_wp2_with (first | ((with_reducible refine gate_builtin (b := .append) (xs := #[.tmp 39, .tmp 44]) rfl ?_); at_builtin; refine Kd.R_append k31 (w0 := w) w.heap.size rfl (.tmp 39) (.tmp 44) 27 31 (.agg #[(.string ⟨#[]⟩), (.string ⟨#[]⟩)]) 32 rfl Tryd.underlying27 info31 rfl (by decide) (by omega) u5 a6 (⟨(rd_T31 l0 a0).f0, (rd_T31 l0 a0).f1⟩ : S31) [.string ((rd_T31 l0 a0).f0), .string ((rd_T31 l0 a0).f1)] (fun k_ => k_ ≠ a5) (fun _ => False) rfl rfl ?aP (fun _ hk => hk.elim) ?aF ?aO ?aB ?aS ?aL ?_; (case aP => exact k31_mkM _ _ _ (⟨(rd_T31 l0 a0).f0, (rd_T31 l0 a0).f1⟩ : S31)); (case aB => exact (zW HB.out)); (case aF => exact (fun k_ hk => Kd.freshB (zK a1.out) k_ hk)); (case aO => exact (zR a4.out)); (case aS => exact (below_size (zW HB.out))); (case aL => have := e8.out; omega); intro i4 i5 ho hb hg hat; rw [← f2.out] at ho; replace a1 := zA (blk_grown (g := a5) (o := .cells #[.string a2, .string a3] 31 (0, 0)) (zK a1.out) hg (Kd.R_away a4.out (fun _ hk => hk))); replace HB := zA (hb); have f5 := zA (ho); clear a4; clear ho hb hg hat)))
      go_roundg b9
      case measure => have := b7.out; have := b8.out; omega
      case rel => exact ⟨(i1), (true), (wrap64 (a0 + 1)), zS, zS, H', ⟨by have := b7.out; have := b8.out; omega⟩, ⟨zR f5.out⟩, ⟨zK a1.out⟩, ⟨zW HB.out⟩⟩
     replace H := zI1 H
     rcases H with ⟨d5, H⟩ | ⟨d5, H⟩
     ·have k9 : (Op.bytesLess a2.toList (((rd_T31 l0 a0).f0).toList)) = true := d5; clear d5; replace H := zC0 H; obtain ⟨i6, H⟩ := H; have f6 := zA i6; clear i6; obtain ⟨d3, f7⟩ : ∃ y_ : List (S31), y_ = (a6 ++ [(⟨a2, a3⟩ : S31)]) := ⟨_, rfl⟩; replace H : (if d3.length < 4398046511104 then (spec_l5Put.l0 b9 l0 (d3 ++ [(⟨(rd_T31 l0 a0).f0, (rd_T31 l0 a0).f1⟩ : S31)]) true (wrap64 (a0 + 1)) a2 a3) else (none)) = some r := zY f7 H; have f8 := zA f7; clear f7; replace H := zC0 H; obtain ⟨i7, H⟩ := H; have f9 := zA i7; clear i7; obtain ⟨i8, g0⟩ : ∃ y_ : List (S31), y_ = (d3 ++ [(⟨(rd_T31 l0 a0).f0, (rd_T31 l0 a0).f1⟩ : S31)]) := ⟨_, rfl⟩; replace H : (spec_l5Put.l0 b9 l0 i8 true (wrap64 (a0 + 1)) a2 a3) = some r := zY g0 H; have g1 := zA g0; clear g0; have H' := zA H; clear H; have a8 : 0 ≤ (a0 : Int) := zD; have a9 : a0 < (l0.length : Int) := zD; obtain ⟨b6, c3, b1, b2⟩ := at_T31 b0.out a0 a8 a9; cases c3; replace b1 := zx HB b1; replace b2 := zx HB b2; replace a8 := eq_true a8; replace a9 := eq_true a9; obtain ⟨m5, m6, m7, m8⟩ := ze2 a1.out; have c4 : 0 ≤ (a0 : Int) := zD; have c6 : a0 < (l0.length : Int) := zD; obtain ⟨g2, g3, d6, d7⟩ := at_T31 b0.out a0 c4 c6; obtain rfl : b6 = g2 := (by injection g3); replace d6 := zx HB d6; replace d7 := zx HB d7; replace c4 := eq_true c4; replace c6 := eq_true c6
      go_wp2_with (first | ((with_reducible refine gate_builtin (b := .append) (xs := #[.tmp 35, .tmp 37]) rfl ?_); at_builtin; refine Kd.R_append k31 (w0 := w) w.heap.size rfl (.tmp 35) (.tmp 37) 27 31 (.agg #[(.string ⟨#[]⟩), (.string ⟨#[]⟩)]) 32 rfl Tryd.underlying27 info31 rfl (by decide) (by omega) u5 a6 (⟨a2, a3⟩ : S31) [.string a2, .string a3] (fun k_ => k_ ≠ a5) (fun _ => False) rfl rfl ?aP (fun _ hk => hk.elim) ?aF ?aO ?aB ?aS ?aL ?_; (case aP => exact k31_mkM _ _ _ (⟨a2, a3⟩ : S31)); (case aB => exact (zW HB.out)); (case aF => exact (fun k_ hk => Kd.freshB (zK a1.out) k_ hk)); (case aO => exact (zR a4.out)); (case aS => exact (below_size (zW HB.out))); (case aL => have := f6.out; omega); intro d8 i9 ho hb hg hat; rw [← f8.out] at ho; replace a1 := zA (blk_grown (g := a5) (o := .cells #[.string a2, .string a3] 31 (0, 0)) (zK a1.out) hg (Kd.R_away a4.out (fun _ hk => hk))); replace HB := zA (hb); have b3 := zA (ho); clear a4; clear ho hb hg hat; have b4 : 0 ≤ (a0 : Int) := zD; have b5 : a0 < (l0.length : Int) := zD; obtain ⟨d9, e0, c1, c2⟩ := at_T31 b0.out a0 b4 b5; obtain rfl : b6 = d9 := (by injection e0); replace c1 := zx HB c1; replace c2 := zx HB c2; replace b4 := eq_true b4; replace b5 := eq_true b5) | ((with_reducible refine gate_builtin (b := .append) (xs := #[.tmp 39, .tmp 44]) rfl ?_); at_builtin; refine Kd.R_append k31 (w0 := w) w.heap.size rfl (.tmp 39) (.tmp 44) 27 31 (.agg #[(.string ⟨#[]⟩), (.string ⟨#[]⟩)]) 32 rfl Tryd.underlying27 info31 rfl (by decide) (by omega) d8 d3 (⟨(rd_T31 l0 a0).f0, (rd_T31 l0 a0).f1⟩ : S31) [.string ((rd_T31 l0 a0).f0), .string ((rd_T31 l0 a0).f1)] (fun k_ => k_ ≠ a5) (fun _ => False) rfl rfl ?aP (fun _ hk => hk.elim) ?aF ?aO ?aB ?aS ?aL ?_; (case aP => exact k31_mkM _ _ _ (⟨(rd_T31 l0 a0).f0, (rd_T31 l0 a0).f1⟩ : S31)); (case aB => exact (zW HB.out)); (case aF => exact (fun k_ hk => Kd.freshB (zK a1.out) k_ hk)); (case aO => exact (zR b3.out)); (case aS => exact (below_size (zW HB.out))); (case aL => have := f9.out; omega); intro j0 j2 ho hb hg hat; rw [← g1.out] at ho; replace a1 := zA (blk_grown (g := a5) (o := .cells #[.string a2, .string a3] 31 (0, 0)) (zK a1.out) hg (Kd.R_away b3.out (fun _ hk => hk))); replace HB := zA (hb); have g4 := zA (ho); clear b3; clear ho hb hg hat))
      repeat (go_quiet (first | ((with_reducible refine gate_builtin (b := .append) (xs := #[.tmp 35, .tmp 37]) rfl ?_); at_builtin; refine Kd.R_append k31 (w0 := w) w.heap.size rfl (.tmp 35) (.tmp 37) 27 31 (.agg #[(.string ⟨#[]⟩), (.string ⟨#[]⟩)]) 32 rfl Tryd.underlying27 info31 rfl (by decide) (by omega) u5 a6 (⟨a2, a3⟩ : S31) [.string a2, .string a3] (fun k_ => k_ ≠ a5) (fun _ => False) rfl rfl ?aP (fun _ hk => hk.elim) ?aF ?aO ?aB ?aS ?aL ?_; (case aP => exact k31_mkM _ _ _ (⟨a2, a3⟩ : S31)); (case aB => exact (zW HB.out)); (case aF => exact (fun k_ hk => Kd.freshB (zK a1.out) k_ hk)); (case aO => exact (zR a4.out)); (case aS => exact (below_size (zW HB.out))); (case aL => have := f6.out; omega); intro d8 i9 ho hb hg hat; rw [← f8.out] at ho; replace a1 := zA (blk_grown (g := a5) (o := .cells #[.string a2, .string a3] 31 (0, 0)) (zK a1.out) hg (Kd.R_away a4.out (fun _ hk => hk))); replace HB := zA (hb); have b3 := zA (ho); clear a4; clear ho hb hg hat; have b4 : 0 ≤ (a0 : Int) := zD; have b5 : a0 < (l0.length : Int) := zD; obtain ⟨d9, e0, c1, c2⟩ := at_T31 b0.out a0 b4 b5; obtain rfl : b6 = d9 := (by injection e0); replace c1 := zx HB c1; replace c2 := zx HB c2; replace b4 := eq_true b4; replace b5 := eq_true b5) | ((with_reducible refine gate_builtin (b := .append) (xs := #[.tmp 39, .tmp 44]) rfl ?_); at_builtin; refine Kd.R_append k31 (w0 := w) w.heap.size rfl (.tmp 39) (.tmp 44) 27 31 (.agg #[(.string ⟨#[]⟩), (.string ⟨#[]⟩)]) 32 rfl Tryd.underlying27 info31 rfl (by decide) (by omega) d8 d3 (⟨(rd_T31 l0 a0).f0, (rd_T31 l0 a0).f1⟩ : S31) [.string ((rd_T31 l0 a0).f0), .string ((rd_T31 l0 a0).f1)] (fun k_ => k_ ≠ a5) (fun _ => False) rfl rfl ?aP (fun _ hk => hk.elim) ?aF ?aO ?aB ?aS ?aL ?_; (case aP => exact k31_mkM _ _ _ (⟨(rd_T31 l0 a0).f0, (rd_T31 l0 a0).f1⟩ : S31)); (case aB => exact (zW HB.out)); (case aF => exact (fun k_ hk => Kd.freshB (zK a1.out) k_ hk)); (case aO => exact (zR b3.out)); (case aS => exact (below_size (zW HB.out))); (case aL => have := f9.out; omega); intro j0 j2 ho hb hg hat; rw [← g1.out] at ho; replace a1 := zA (blk_grown (g := a5) (o := .cells #[.string a2, .string a3] 31 (0, 0)) (zK a1.out) hg (Kd.R_away b3.out (fun _ hk => hk))); replace HB := zA (hb); have g4 := zA (ho); clear b3; clear ho hb hg hat)); try go_wp2_with (first | ((with_reducible refine gate_builtin (b := .append) (xs := #[.tmp 35, .tmp 37]) rfl ?_); at_builtin; refine Kd.R_append k31 (w0 := w) w.heap.size rfl (.tmp 35) (.tmp 37) 27 31 (.agg #[(.string ⟨#[]⟩), (.string ⟨#[]⟩)]) 32 rfl Tryd.underlying27 info31 rfl (by decide) (by omega) u5 a6 (⟨a2, a3⟩ : S31) [.string a2, .string a3] (fun k_ => k_ ≠ a5) (fun _ => False) rfl rfl ?aP (fun _ hk => hk.elim) ?aF ?aO ?aB ?aS ?aL ?_; (case aP => exact k31_mkM _ _ _ (⟨a2, a3⟩ : S31)); (case aB => exact (zW HB.out)); (case aF => exact (fun k_ hk => Kd.freshB (zK a1.out) k_ hk)); (case aO => exact (zR a4.out)); (case aS => exact (below_size (zW HB.out))); (case aL => have := f6.out; omega); intro d8 i9 ho hb hg hat; rw [← f8.out] at ho; replace a1 := zA (blk_grown (g := a5) (o := .cells #[.string a2, .string a3] 31 (0, 0)) (zK a1.out) hg (Kd.R_away a4.out (fun _ hk => hk))); replace HB := zA (hb); have b3 := zA (ho); clear a4; clear ho hb hg hat; have b4 : 0 ≤ (a0 : Int) := zD; have b5 : a0 < (l0.length : Int) := zD; obtain ⟨d9, e0, c1, c2⟩ := at_T31 b0.out a0 b4 b5; obtain rfl : b6 = d9 := (by injection e0); replace c1 := zx HB c1; replace c2 := zx HB c2; replace b4 := eq_true b4; replace b5 := eq_true b5) | ((with_reducible refine gate_builtin (b := .append) (xs := #[.tmp 39, .tmp 44]) rfl ?_); at_builtin; refine Kd.R_append k31 (w0 := w) w.heap.size rfl (.tmp 39) (.tmp 44) 27 31 (.agg #[(.string ⟨#[]⟩), (.string ⟨#[]⟩)]) 32 rfl Tryd.underlying27 info31 rfl (by decide) (by omega) d8 d3 (⟨(rd_T31 l0 a0).f0, (rd_T31 l0 a0).f1⟩ : S31) [.string ((rd_T31 l0 a0).f0), .string ((rd_T31 l0 a0).f1)] (fun k_ => k_ ≠ a5) (fun _ => False) rfl rfl ?aP (fun _ hk => hk.elim) ?aF ?aO ?aB ?aS ?aL ?_; (case aP => exact k31_mkM _ _ _ (⟨(rd_T31 l0 a0).f0, (rd_T31 l0 a0).f1⟩ : S31)); (case aB => exact (zW HB.out)); (case aF => exact (fun k_ hk => Kd.freshB (zK a1.out) k_ hk)); (case aO => exact (zR b3.out)); (case aS => exact (below_size (zW HB.out))); (case aL => have := f9.out; omega); intro j0 j2 ho hb hg hat; rw [← g1.out] at ho; replace a1 := zA (blk_grown (g := a5) (o := .cells #[.string a2, .string a3] 31 (0, 0)) (zK a1.out) hg (Kd.R_away b3.out (fun _ hk => hk))); replace HB := zA (hb); have g4 := zA (ho); clear b3; clear ho hb hg hat)))
      go_roundg b9
      case measure => have := b7.out; have := b8.out; omega
      case rel => exact ⟨(i8), (true), (wrap64 (a0 + 1)), zS, zS, H', ⟨by have := b7.out; have := b8.out; omega⟩, ⟨zR g4.out⟩, ⟨zK a1.out⟩, ⟨zW HB.out⟩⟩
     have k9 : (Op.bytesLess a2.toList (((rd_T31 l0 a0).f0).toList)) = false := by simpa using d5
     clear d5; replace H := zC0 H; obtain ⟨j3, H⟩ := H; have g5 := zA j3; clear j3; obtain ⟨j4, g6⟩ : ∃ y_ : List (S31), y_ = (a6 ++ [(⟨(rd_T31 l0 a0).f0, (rd_T31 l0 a0).f1⟩ : S31)]) := ⟨_, rfl⟩; replace H : (spec_l5Put.l0 b9 l0 j4 false (wrap64 (a0 + 1)) a2 a3) = some r := zY g6 H; have g7 := zA g6; clear g6; have H' := zA H; clear H; have a8 : 0 ≤ (a0 : Int) := zD; have a9 : a0 < (l0.length : Int) := zD; obtain ⟨b6, c3, b1, b2⟩ := at_T31 b0.out a0 a8 a9; cases c3; replace b1 := zx HB b1; replace b2 := zx HB b2; replace a8 := eq_true a8; replace a9 := eq_true a9; obtain ⟨m9, n0, n1, n2⟩ := ze2 a1.out; have c4 : 0 ≤ (a0 : Int) := zD; have c6 : a0 < (l0.length : Int) := zD; obtain ⟨g2, g3, d6, d7⟩ := at_T31 b0.out a0 c4 c6; obtain rfl : b6 = g2 := (by injection g3); replace d6 := zx HB d6; replace d7 := zx HB d7; replace c4 := eq_true c4; replace c6 := eq_true c6; have g8 : 0 ≤ (a0 : Int) := zD; have g9 : a0 < (l0.length : Int) := zD; obtain ⟨l1, l2, j5, j6⟩ := at_T31 b0.out a0 g8 g9; obtain rfl : b6 = l1 := (by injection l2); replace j5 := zx HB j5; replace j6 := zx HB j6; replace g8 := eq_true g8; replace g9 := eq_true g9
     go_wp2_with (first | ((with_reducible refine gate_builtin (b := .append) (xs := #[.tmp 39, .tmp 44]) rfl ?_); at_builtin; refine Kd.R_append k31 (w0 := w) w.heap.size rfl (.tmp 39) (.tmp 44) 27 31 (.agg #[(.string ⟨#[]⟩), (.string ⟨#[]⟩)]) 32 rfl Tryd.underlying27 info31 rfl (by decide) (by omega) u5 a6 (⟨(rd_T31 l0 a0).f0, (rd_T31 l0 a0).f1⟩ : S31) [.string ((rd_T31 l0 a0).f0), .string ((rd_T31 l0 a0).f1)] (fun k_ => k_ ≠ a5) (fun _ => False) rfl rfl ?aP (fun _ hk => hk.elim) ?aF ?aO ?aB ?aS ?aL ?_; (case aP => exact k31_mkM _ _ _ (⟨(rd_T31 l0 a0).f0, (rd_T31 l0 a0).f1⟩ : S31)); (case aB => exact (zW HB.out)); (case aF => exact (fun k_ hk => Kd.freshB (zK a1.out) k_ hk)); (case aO => exact (zR a4.out)); (case aS => exact (below_size (zW HB.out))); (case aL => have := g5.out; omega); intro j7 j8 ho hb hg hat; rw [← g7.out] at ho; replace a1 := zA (blk_grown (g := a5) (o := .cells #[.string a2, .string a3] 31 (0, 0)) (zK a1.out) hg (Kd.R_away a4.out (fun _ hk => hk))); replace HB := zA (hb); have h0 := zA (ho); clear a4; clear ho hb hg hat))
     repeat (go_quiet (first | ((with_reducible refine gate_builtin (b := .append) (xs := #[.tmp 39, .tmp 44]) rfl ?_); at_builtin; refine Kd.R_append k31 (w0 := w) w.heap.size rfl (.tmp 39) (.tmp 44) 27 31 (.agg #[(.string ⟨#[]⟩), (.string ⟨#[]⟩)]) 32 rfl Tryd.underlying27 info31 rfl (by decide) (by omega) u5 a6 (⟨(rd_T31 l0 a0).f0, (rd_T31 l0 a0).f1⟩ : S31) [.string ((rd_T31 l0 a0).f0), .string ((rd_T31 l0 a0).f1)] (fun k_ => k_ ≠ a5) (fun _ => False) rfl rfl ?aP (fun _ hk => hk.elim) ?aF ?aO ?aB ?aS ?aL ?_; (case aP => exact k31_mkM _ _ _ (⟨(rd_T31 l0 a0).f0, (rd_T31 l0 a0).f1⟩ : S31)); (case aB => exact (zW HB.out)); (case aF => exact (fun k_ hk => Kd.freshB (zK a1.out) k_ hk)); (case aO => exact (zR a4.out)); (case aS => exact (below_size (zW HB.out))); (case aL => have := g5.out; omega); intro j7 j8 ho hb hg hat; rw [← g7.out] at ho; replace a1 := zA (blk_grown (g := a5) (o := .cells #[.string a2, .string a3] 31 (0, 0)) (zK a1.out) hg (Kd.R_away a4.out (fun _ hk => hk))); replace HB := zA (hb); have h0 := zA (ho); clear a4; clear ho hb hg hat)); try go_wp2_with (first | ((with_reducible refine gate_builtin (b := .append) (xs := #[.tmp 39, .tmp 44]) rfl ?_); at_builtin; refine Kd.R_append k31 (w0 := w) w.heap.size rfl (.tmp 39) (.tmp 44) 27 31 (.agg #[(.string ⟨#[]⟩), (.string ⟨#[]⟩)]) 32 rfl Tryd.underlying27 info31 rfl (by decide) (by omega) u5 a6 (⟨(rd_T31 l0 a0).f0, (rd_T31 l0 a0).f1⟩ : S31) [.string ((rd_T31 l0 a0).f0), .string ((rd_T31 l0 a0).f1)] (fun k_ => k_ ≠ a5) (fun _ => False) rfl rfl ?aP (fun _ hk => hk.elim) ?aF ?aO ?aB ?aS ?aL ?_; (case aP => exact k31_mkM _ _ _ (⟨(rd_T31 l0 a0).f0, (rd_T31 l0 a0).f1⟩ : S31)); (case aB => exact (zW HB.out)); (case aF => exact (fun k_ hk => Kd.freshB (zK a1.out) k_ hk)); (case aO => exact (zR a4.out)); (case aS => exact (below_size (zW HB.out))); (case aL => have := g5.out; omega); intro j7 j8 ho hb hg hat; rw [← g7.out] at ho; replace a1 := zA (blk_grown (g := a5) (o := .cells #[.string a2, .string a3] 31 (0, 0)) (zK a1.out) hg (Kd.R_away a4.out (fun _ hk => hk))); replace HB := zA (hb); have h0 := zA (ho); clear a4; clear ho hb hg hat)))
     go_roundg b9
     case measure => have := b7.out; have := b8.out; omega
     case rel => exact ⟨(j4), (false), (wrap64 (a0 + 1)), zS, zS, H', ⟨by have := b7.out; have := b8.out; omega⟩, ⟨zR h0.out⟩, ⟨zK a1.out⟩, ⟨zW HB.out⟩⟩
/-! ### spec_PutFile: function 10 -/
def spec_PutFile.f (k : Nat) (l0 : List (S31)) (a2 a3 : ByteArray) : Option ((List (S31)) × Bool) := (spec_l5Put.f k l0 a2 a3).bind fun a0 => ((spec_FilesOk.f k a0).bind fun a4 => (if a4 = true then (some (a0, true)) else ((some (([] : List (S31)) : List (S31))).bind fun a1 => (if a1.length + l0.length < 4398046511104 then (some ((a1 ++ l0), false)) else (none)))))
theorem spec_PutFile.calls (k : Nat) (A0 : Option Addr) (c0 : Nat) (l0 : List (S31)) (a2 a3 : ByteArray) (r1 : List (S31)) (r2 : Bool) (w : World) (b3 : Kd.C k31 w A0 l0.length l0) (b4 : l0.length ≤ c0) (h : spec_PutFile.f k l0 a2 a3 = some (r1, r2)) :
  Calls Tryd.prog 10 #[.slice A0 l0.length c0, .agg #[.string a2, .string a3]] w fun e w' => ∃ b5 : Value, e = .returned (.tuple #[b5, .bool r2]) ∧ Kd.R k31 31 w' w.heap.size (fun _ => True) b5 r1 ∧ Below w.heap.size w w' := by
 have d6 := Tryd.underlying31
 have a9 := zA b3
 have b6 := zA b4
 clear b3 b4
 have HB := zA (Below.refl w.heap.size w)
 unfold spec_PutFile.f at h
 have H := h
 clear h
 replace H := Option.bind_eq_some_iff.mp H
 obtain ⟨a4, b7, H⟩ := H
 try dsimp only at H
 have A3 := zA b7
 clear b7
 replace H := Option.bind_eq_some_iff.mp H
 obtain ⟨d7, b8, H⟩ := H
 try dsimp only at H
 have A4 := zA b8
 clear b8
 replace H := zB0 H
 rcases H with ⟨rfl, H⟩ | ⟨rfl, H⟩
 ·simp only [zU] at H; obtain ⟨rfl, rfl⟩ := H
  go_enter Tryd.func10, Tryd.ntmps10
  go_wp2_with (first | ((with_reducible refine zd 3 ?_); refine ze 3 31 #[.string a2, .string a3] ?_; intro a5 hg w6 hbox hb; have a0 := zA (hbox); have c4 := zi HB hg; have c5 := zi HB hg; replace HB := zA (below_step (zB) hb); clear hb hbox hg; obtain ⟨d8, d9, e0, e1⟩ := ze2 a0.out) | ((with_reducible refine zq 57 ?_); refine zg (some 9) Tryd.func57 #[.slice A0 l0.length c0, .agg #[.string a2, .string a3]] ?_; (with_reducible refine (spec_l5Put.calls k _ _ l0 a2 a3 a4 _ ?s1 ?s2 A3.out).mono ?_); (case s1 => exact zC (Kd.C_below a9.out HB.out)); (case s2 => exact b6.out); rintro e w8 ⟨c6, rfl, a7, hb⟩; refine ⟨_, rfl, ?_⟩; have a1 := zA (Kd.R_lower (Kd.R_newB a7 (g := a5) (o := .cells #[.string a2, .string a3] 31 (0, 0)) (zK a0.out)) (below_size (zW HB.out))); replace a0 := zb a0 hb; replace HB := zh HB hb; (try clear hb a7); obtain ⟨c7, c8, c9⟩ := Kd.R_slice a1.out; subst c9) | ((with_reducible refine zq 31 ?_); refine zg (some 11) Tryd.func31 #[.slice c7 a4.length c8] ?_; (with_reducible refine (spec_FilesOk.calls k _ _ a4 true _ ?s1 ?s2 A4.out).mono ?_); (case s1 => repeat (first | exact (Kd.R_reads' a1.out).2.2 | (with_reducible refine Kd.C_alloc ?_ _) | (with_reducible refine Kd.C_drewN ?_ _) | (with_reducible refine Kd.C_drew ?_))); (case s2 => exact (Kd.R_reads' a1.out).2.1); rintro e e2 ⟨rfl, hb⟩; refine ⟨_, rfl, ?_⟩; replace a1 := zr a1 hb; replace a0 := zb a0 hb; replace HB := zh HB hb; (try clear hb)))
  go_ret2
  exact ⟨_, zE, zR (Kd.R_mono a1.out (fun _ hk => trivial)), zW HB.out⟩
 obtain ⟨a8, b0⟩ : ∃ y_ : List (S31), y_ = (([] : List (S31))) := ⟨_, rfl⟩
 replace H : (if a8.length + l0.length < 4398046511104 then (some ((a8 ++ l0), false)) else (none)) = some (r1, r2) := zY b0 H
 have b9 := zA b0
 clear b0
 replace H := zC0 H
 obtain ⟨c1, H⟩ := H
 have d0 := zA c1
 clear c1
 obtain ⟨d1, b1⟩ : ∃ y_ : List (S31), y_ = (a8 ++ l0) := ⟨_, rfl⟩
 replace H : (some (d1, false)) = some (r1, r2) := zY b1 H
 have d2 := zA b1
 clear b1
 simp only [zU] at H
 obtain ⟨rfl, rfl⟩ := H
 go_enter Tryd.func10, Tryd.ntmps10
 go_wp2_with (first | ((with_reducible refine zd 3 ?_); refine ze 3 31 #[.string a2, .string a3] ?_; intro a5 hg e3 hbox hb; have a0 := zA (hbox); have c4 := zi HB hg; have c5 := zi HB hg; replace HB := zA (below_step (zB) hb); clear hb hbox hg; obtain ⟨e4, e5, e6, e7⟩ := ze2 a0.out) | ((with_reducible refine zq 57 ?_); refine zg (some 9) Tryd.func57 #[.slice A0 l0.length c0, .agg #[.string a2, .string a3]] ?_; (with_reducible refine (spec_l5Put.calls k _ _ l0 a2 a3 a4 _ ?s1 ?s2 A3.out).mono ?_); (case s1 => exact zC (Kd.C_below a9.out HB.out)); (case s2 => exact b6.out); rintro e e8 ⟨c6, rfl, a7, hb⟩; refine ⟨_, rfl, ?_⟩; have a1 := zA (Kd.R_lower (Kd.R_newB a7 (g := a5) (o := .cells #[.string a2, .string a3] 31 (0, 0)) (zK a0.out)) (below_size (zW HB.out))); replace a0 := zb a0 hb; replace HB := zh HB hb; (try clear hb a7); obtain ⟨c2, c3, d3⟩ := Kd.R_slice a1.out; subst d3) | ((with_reducible refine zq 31 ?_); refine zg (some 11) Tryd.func31 #[.slice c2 a4.length c3] ?_; (with_reducible refine (spec_FilesOk.calls k _ _ a4 false _ ?s1 ?s2 A4.out).mono ?_); (case s1 => repeat (first | exact (Kd.R_reads' a1.out).2.2 | (with_reducible refine Kd.C_alloc ?_ _) | (with_reducible refine Kd.C_drewN ?_ _) | (with_reducible refine Kd.C_drew ?_))); (case s2 => exact (Kd.R_reads' a1.out).2.1); rintro e e9 ⟨rfl, hb⟩; refine ⟨_, rfl, ?_⟩; replace a1 := zr a1 hb; replace a0 := zb a0 hb; replace HB := zh HB hb; (try clear hb)) | ((with_reducible refine gate_dst (N := 13) rfl ?_); refine Kd.R_lit k31 _ 31 ?hg (N := 13) ?hd (xs := ([] : List (S31))) (inner := []) (ok := fun _ => True) ?hr ?hp (fun _ hk => hk) trivial (Below.refl _ _) (Nat.le_refl _) (by simp) ?_; (case hd => rfl); (case hg => rfl); (case hr => first | (go_simp; done) | (go_simp; rfl)); (case hp => exact (Reps.none _ _)); intro d4 f0 a6 hb hg_ hnew_; clear hg_ hnew_; (first | rw [← b9.out] at a6 | (simp only [Int.reduceToNat] at a6; rw [← b9.out] at a6)); have b2 := zA (Kd.R_lower (Kd.R_newB (Kd.R_new' a6 (Kd.R_lt (zR a1.out))) (g := a5) (o := .cells #[.string a2, .string a3] 31 (0, 0)) (zK a0.out)) (below_size (zW HB.out))); replace a1 := zA (Kd.R_elder' (zR a1.out) (Kd.R_base a6) hb); replace a0 := zb a0 hb; replace HB := zh HB hb; clear hb a6) | ((with_reducible refine gate_builtin (b := .append) (xs := #[.tmp 13, .tmp 14]) rfl ?_); at_builtin; refine Kd.R_append_rows k31 (w0 := w) w.heap.size rfl (.tmp 13) (.tmp 14) 27 31 (.agg #[(.string ⟨#[]⟩), (.string ⟨#[]⟩)]) 32 rfl Tryd.underlying27 info31 rfl (by decide) (by omega) d4 a8 l0 _ _ _ (fun k_ => some k_ ≠ (.slice c2 a4.length c3 : Value).ownBlock ∧ k_ ≠ a5) (fun _ => False) rfl rfl ?aO ?aR (fun _ _ h => h) (fun _ h => h.elim) ?aF ?aB ?aS ?aL ?_; (case aR => repeat (first | exact (Kd.C_below a9.out HB.out) | (with_reducible refine Kd.C_alloc ?_ _) | (with_reducible refine Kd.C_drewN ?_ _) | (with_reducible refine Kd.C_drew ?_))); (case aB => exact (zW HB.out)); (case aF => exact (fun k_ hk => ⟨Kd.fresh' (Kd.R_lt (zR a1.out)) k_ hk, Kd.freshB (zK a0.out) k_ hk⟩)); (case aO => exact (zR (Kd.R_mono b2.out (fun _ hk => ⟨hk.1.2, hk.2⟩)))); (case aS => exact (below_size (zW HB.out))); (case aL => have := d0.out; omega); intro f1 f2 ho hb hg hat; rw [← d2.out] at ho; replace a0 := zA (blk_grown (g := a5) (o := .cells #[.string a2, .string a3] 31 (0, 0)) (zK a0.out) hg (Kd.R_away b2.out (fun _ hk => hk.2))); replace a1 := zA (Kd.R_after (ok := (fun k_ => k_ ≠ a5)) (zR (Kd.R_mono a1.out (fun _ hk => ⟨hk.1.2, hk.2⟩))) hg hat); replace HB := zA (hb); have d5 := zA (ho); clear b2; clear ho hb hg hat))
 go_ret2
 exact ⟨_, zE, zR (Kd.R_mono d5.out (fun _ hk => trivial)), zW HB.out⟩
/-! ### laws_toFile: function 12 -/
def laws_toFile.f (a0 a1 : ByteArray) : Option (ByteArray × ByteArray) := some (a0, a1)
theorem laws_toFile.calls (a2 a3 r1 r2 : ByteArray) (w : World) (h : laws_toFile.f a2 a3 = some (r1, r2)) :
  Calls Tryd.prog 12 #[.agg #[.string a2, .string a3]] w fun e w' => e = .returned (.agg #[.string r1, .string r2]) ∧ Below w.heap.size w w' := by
 have b2 := Tryd.underlying24
 have b3 := Tryd.underlying31
 have HB := zA (Below.refl w.heap.size w)
 unfold laws_toFile.f at h
 have H := h
 clear h
 simp only [zU] at H
 obtain ⟨rfl, rfl⟩ := H
 go_enter Tryd.func12, Tryd.ntmps12
 go_wp2_with (first | ((with_reducible refine zd 1 ?_); refine ze 1 24 #[.string a2, .string a3] ?_; intro b4 hg w2 hbox hb; have a0 := zA (hbox); have b5 := zi HB hg; have b6 := zi HB hg; replace HB := zA (below_step (zB) hb); clear hb hbox hg) | ((with_reducible refine zd 2 ?_); refine ze 2 31 #[.string (⟨#[]⟩ : ByteArray), .string (⟨#[]⟩ : ByteArray)] ?_; intro a5 hg w3 hbox hb; have a1 := zA (hbox); have b7 := zi HB hg; have b8 := zi HB hg; replace HB := zh HB hb; have a6 := zA (zL hg (zK a0.out)); have a7 := zA (zJ hg (zK a0.out)); replace a0 := zb a0 hb; clear hb hbox hg) | ((with_reducible refine zd 3 ?_); refine ze 3 31 #[.string (⟨#[]⟩ : ByteArray), .string (⟨#[]⟩ : ByteArray)] ?_; intro b9 hg w4 hbox hb; have a8 := zA (hbox); have c0 := zi HB hg; have c1 := zi HB hg; replace HB := zh HB hb; have a9 := zA (zL hg (zK a0.out)); have b0 := zA (zJ hg (zK a0.out)); replace a0 := zb a0 hb; have a4 := zA (zL hg (zK a1.out)); have b1 := zA (zJ hg (zK a1.out)); replace a1 := zb a1 hb; clear hb hbox hg; have c2 := a6.out; have c3 := a7.out; have c4 := a9.out; have c5 := b0.out; obtain ⟨c6, c7, c8, c9⟩ := ze2 a0.out; have d0 := b1.out; have d1 := a4.out; obtain ⟨d2, d3, d4, d5⟩ := ze2 a8.out; obtain ⟨d6, d7, d8, d9⟩ := ze2 a1.out))
 refine bodyPost_ret (results_cell_row rfl _ _ a5 31 #[.string a2, .string a3] (0, 0) _ rfl (by (with_reducible repeat (first | refine blk_drewN ?_ _ | refine blk_drew ?_ | refine blk_alloc ?_ _)); refine blk_put (cs := #[.string a2, .string (⟨#[]⟩ : ByteArray)]) ?_ 1 _ rfl; (with_reducible repeat (first | refine blk_drewN ?_ _ | refine blk_drew ?_ | refine blk_alloc ?_ _)); refine blk_put (cs := #[.string (⟨#[]⟩ : ByteArray), .string (⟨#[]⟩ : ByteArray)]) ?_ 0 _ rfl; (with_reducible repeat (first | refine blk_drewN ?_ _ | refine blk_drew ?_ | refine blk_alloc ?_ _)); refine blk_far ?_ a4.out _; (with_reducible repeat (first | refine blk_drewN ?_ _ | refine blk_drew ?_ | refine blk_alloc ?_ _)); refine blk_far ?_ a4.out _; (with_reducible repeat (first | refine blk_drewN ?_ _ | refine blk_drew ?_ | refine blk_alloc ?_ _)); exact a1.out) Tryd.underlying31 rfl (by kernel_rfl)) rfl ?_
 exact ⟨zE, zW HB.out⟩
/-! ### laws_toFileS: function 11 -/
def laws_toFileS.l0 : Nat → List (S24) → List (S31) → Int → Option ((List (S31)))
 | 0, _, _, _ => none
 | k + 1, x0, x3, x4 => if x4 < (x0.length : Int) then (if 0 ≤ x4 then ((laws_toFile.f ((rd_T24 x0 x4).f0) ((rd_T24 x0 x4).f1)).bind fun a0 => (if x4 < (x3.length : Int) then (laws_toFileS.l0 k x0 (x3.set (x4 : Int).toNat (⟨a0.1, a0.2⟩ : S31)) (wrap64 (x4 + 1))) else (none))) else (none)) else (some x3)
def laws_toFileS.f (k : Nat) (l0 : List (S24)) : Option ((List (S31))) := if 0 ≤ (l0.length : Int) then (if ((l0.length : Int) : Int).toNat ≤ 8796093022208 then (laws_toFileS.l0 k l0 (List.replicate ((l0.length : Int) : Int).toNat z31) 0) else (none)) else (none)
theorem laws_toFileS.calls (k : Nat) (A0 : Option Addr) (c0 : Nat) (l0 : List (S24)) (r : List (S31)) (w : World) (c5 : Kd.C k24 w A0 l0.length l0) (c6 : l0.length ≤ c0) (h : laws_toFileS.f k l0 = some r) :
  Calls Tryd.prog 11 #[.slice A0 l0.length c0] w fun e w' => ∃ c7 : Value, e = .returned (c7) ∧ Kd.R k31 31 w' w.heap.size (fun _ => True) c7 r ∧ Below w.heap.size w w' := by
 have g1 := Tryd.underlying24
 have g2 := Tryd.underlying31
 have e3 := zA c5
 have g3 := zA c6
 clear c5 c6
 have HB := zA (Below.refl w.heap.size w)
 unfold laws_toFileS.f at h
 have H := h
 clear h
 replace H := zC0 H
 obtain ⟨c2, H⟩ := H
 have e4 := eq_true c2
 have e5 := decide_eq_true c2
 clear c2
 replace H := zC0 H
 obtain ⟨c3, H⟩ := H
 have e6 := eq_true c3
 have e7 := decide_eq_true c3
 clear c3
 obtain ⟨c8, a9⟩ : ∃ y_ : List (S31), y_ = (List.replicate ((l0.length : Int) : Int).toNat z31) := ⟨_, rfl⟩
 replace H : (laws_toFileS.l0 k l0 c8 0) = some r := zY a9 H
 have c9 := zA a9
 clear a9
 have H' := zA H
 clear H
 go_enter Tryd.func11, Tryd.ntmps11
 go_wp2_with (first | ((with_reducible refine gate_dst (N := 7) rfl ?_); refine Kd.R_make k31 _ 31 rfl (N := 7) rfl 27 _ _ rfl (l0.length : Int) rfl rfl Tryd.underlying27 (.agg #[(.string ⟨#[]⟩), (.string ⟨#[]⟩)]) 32 info31 rfl (by decide) (by omega) z31 (ok := fun _ => True) (okp := fun _ => True) (k31_mkM _ _ _ z31 ) (fun _ hk => hk) trivial (zD) (Nat.le_trans (Nat.mul_le_mul_right _ (zD : (l0.length : Int).toNat ≤ 8796093022208)) (by omega)) (Below.refl _ _) (Nat.le_refl _) ?_; intro e8 w4 a7 hb hg_ hnew_; clear hg_ hnew_; (first | rw [← c9.out] at a7 | (simp only [Int.reduceToNat] at a7; rw [← c9.out] at a7)); have e9 := zA (Kd.R_lower a7 (below_size (zB))); replace HB := zA (below_step (zB) hb); clear hb a7))
 go_loopg [4] k (fun kq v4 w' => ∃ (a1 : List (S31)) (a0 : Int), v4 = .int .i64 a0 ∧ Aside0 (laws_toFileS.l0 kq l0 a1 a0 = some r) ∧ Aside0 (kq ≤ k) ∧ Aside0 (Kd.R k31 31 w' w.heap.size (fun _ => True) e8 a1) ∧ Aside0 (Below w.heap.size w w'))
 case atStart => exact ⟨(c8), (0), zS, H', ⟨Nat.le_refl _⟩, ⟨zR e9.out⟩, ⟨zB⟩⟩
 case round =>
  clear H'
  try clear c1
  try clear c2
  try clear e4
  try clear e5
  try clear p2
  try clear c3
  try clear e6
  try clear e7
  obtain ⟨a1, a0, rfl, HA, d0, a2, HB⟩ := hrel
  cases gk with
  | zero => exact absurd HA.out (by simp [laws_toFileS.l0])
  | succ k1 =>
   have H := HA.out; clear HA; simp only [laws_toFileS.l0] at H; replace H := zI0 H
   rcases H with ⟨f2, H⟩ | ⟨f2, H⟩
   ·replace H := zD0 H; obtain ⟨g4, H⟩ := H; replace H := Option.bind_eq_some_iff.mp H; obtain ⟨⟨a5, a6⟩, d1, H⟩ := H
    try dsimp only at H
    have A8 := zA d1; clear d1; replace H := zD0 H; obtain ⟨g5, H⟩ := H; obtain ⟨b0, b1⟩ : ∃ y_ : List (S31), y_ = (a1.set (a0 : Int).toNat (⟨a5, a6⟩ : S31)) := ⟨_, rfl⟩; replace H : (laws_toFileS.l0 k1 l0 b0 (wrap64 (a0 + 1))) = some r := zY b1 H; have f3 := zA b1; clear b1; have H' := zA H; clear H; have b2 : 0 ≤ (a0 : Int) := zD; have b3 : a0 < (l0.length : Int) := zD; obtain ⟨g6, f4, d2, d3⟩ := at_T24 e3.out a0 b2 b3; cases f4; replace d2 := zx HB d2; replace d3 := zx HB d3; replace b2 := eq_true b2; replace b3 := eq_true b3
    go_wp2_with (first | ((with_reducible refine zq 12 ?_); refine zg (some 20) Tryd.func12 #[.agg #[.string ((rd_T24 l0 a0).f0), .string ((rd_T24 l0 a0).f1)]] ?_; (with_reducible refine (laws_toFile.calls ((rd_T24 l0 a0).f0) ((rd_T24 l0 a0).f1) a5 a6 _ A8.out).mono ?_); rintro e a4 ⟨rfl, hb⟩; refine ⟨_, rfl, ?_⟩; replace a2 := zr a2 hb; replace HB := zA (below_step (zB) hb); (try clear hb); have b4 : 0 ≤ (a0 : Int) := zD; have b5 : (a0 : Int) < ((a1.length : Int) : Int) := zD; obtain ⟨a3, d4, d5, d6, f5, g7, d7⟩ := Kd.R_form a2.out (by omega); (first | cases d5 | (injection d5 with ea_ en_ ec_; (first | subst ea_ | (injection ea_ with ea_; subst ea_)); subst ec_; clear en_)); have d8 := zA d6; have g8 := zA d7; clear d6 f5 d7; obtain ⟨g9, f6, d9, b6, b7⟩ := Kd.R_elem a2.out z31 (a0 : Int) b4 b5; obtain rfl := k31_openM d9; have h0 : a4.cell? ⟨a3, (a0 : Int).toNat * 2, none⟩ = some (.string ((rd_T31 a1 a0).f0)) := b6 0 _ rfl; have h1 : a4.cell? ⟨a3, (a0 : Int).toNat * 2 + 1, none⟩ = some (.string ((rd_T31 a1 a0).f1)) := b6 1 _ rfl; have h2 : a4.frozen? ⟨a3, (a0 : Int).toNat * 2, none⟩ = false := b7 0; have h3 : a4.frozen? ⟨a3, (a0 : Int).toNat * 2 + 1, none⟩ = false := b7 1; clear f6 b6 b7; (try clear d9); replace b4 := eq_true b4; replace b5 := eq_true b5; have e0 := zA (show Kd.R k31 31 a4 w.heap.size (fun _ => True) (.slice (some ⟨a3, 0, none⟩) a1.length d4) a1 from (zR a2.out)); obtain ⟨h4, e1, e2, a8, b8⟩ := Kd.R_elem e0.out z31 (a0 : Int) (zD) (by have h_ : (a0 : Int) < ((a1.length : Int) : Int) := zD; first | exact h_ | (have e_ := (Kd.R_reads' a2.out).1; omega) | simpa using h_); obtain rfl := k31_openM e2; have b9 := Kd.R_seg e0.out (a0 : Int) (zD) (by have h_ : (a0 : Int) < ((a1.length : Int) : Int) := zD; first | exact h_ | (have e_ := (Kd.R_reads' a2.out).1; omega) | simpa using h_) (seg := [.string a5, .string a6]) (j := 0) e1 a8 (show 2 ≤ 2 from by decide) (x' := (⟨a5, a6⟩ : S31)) (k31_mkM _ _ _ (⟨a5, a6⟩ : S31) ) (fun _ hk => hk); have f7 := a8 0 _ rfl; (try simp only [show (k31).sz = 2 from rfl, Nat.mul_one, Nat.add_zero] at f7); have f8 := b8 0; (try simp only [show (k31).sz = 2 from rfl, Nat.mul_one, Nat.add_zero] at f8); have f9 := a8 1 _ rfl; (try simp only [show (k31).sz = 2 from rfl, Nat.mul_one, Nat.add_zero] at f9); have g0 := b8 1; (try simp only [show (k31).sz = 2 from rfl, Nat.mul_one, Nat.add_zero] at g0); clear e1 a8 b8; (try clear e2)) | ((with_reducible refine gate_store (t := 31) (p := 21) rfl ?_); refine store_event (t := 31) (p := 21) (v := ?vo_w13) (w1 := ((a4.setCell ⟨a3, (a0 : Int).toNat * 2, none⟩ (.string a5)).setCell ⟨a3, (a0 : Int).toNat * 2 + 1, none⟩ (.string a6))) ?hg ?ho ?hn ?hr ?_; (case ho => rfl); (case hg => rfl); (case hn => rfl); (case hr => first | (go_simp; done) | (go_simp; rfl)); intro c4 hw; have hg : a4.grownBy c4 (some a3) := (by rw [hw]; exact b9.2); have hp_ : Kd.R k31 31 c4 w.heap.size (fun _ => True) (.slice (some ⟨a3, 0, none⟩) a1.length d4) b0 := (by rw [hw, f3.out]; exact b9.1); clear b9; replace a2 := zA (hp_); replace HB := zA ((by rw [hw]; exact below_set (below_set (HB.out) d8.out) d8.out : Below w.heap.size w c4)); clear hg hw hp_))
    go_roundg k1
    case measure => have := d0.out; omega
    case rel => exact ⟨(b0), (wrap64 (a0 + 1)), zS, H', ⟨by have := d0.out; omega⟩, ⟨zR a2.out⟩, ⟨zB⟩⟩
   obtain rfl := zm H
   go_wp2
   go_ret
   exact ⟨_, zE, zR a2.out, zB⟩
/-! ### strings_Split: function 73 -/
def strings_Split.f (a0 a1 : ByteArray) : Option (List ByteArray) := if a0.size < 4294967281 ∧ 1 ≤ a1.size then some (Lib.splitB a1 0 (Lib.countB a0 a1) a0) else none
theorem strings_Split.calls (a0 a1 : ByteArray) (r : List ByteArray) (w : World) (hG : GW w) (h : strings_Split.f a0 a1 = some r) :
  Calls Tryd.prog 73 #[.string a0, .string a1] w fun e w' => ∃ a2 : Value, e = .returned (a2) ∧ Kd.R Kd.string 9 w' w.heap.size (fun _ => True) a2 r ∧ Below w.heap.size w w' := by
 unfold strings_Split.f at h
 split at h
 ·rename_i hs
  obtain rfl := Option.some.inj h; obtain ⟨m, hm⟩ := hG.maxLen
  refine (Tryd.strings_Split a0 a1 m w hs.1 hm hs.2).mono ?_
  rintro e w' ⟨rfl, rfl⟩
  have hl := Lib.splitB_all a1 hs.2 0 _ a0 rfl; have hle := Lib.countB_le a1 hs.2 a0.size a0 (Nat.le_refl _)
  exact ⟨_, rfl, Lb.split_R w 9 _ _ hl (by omega), below_alloc (Below.refl _ _) _⟩
 ·cases h
/-! ### impl_inRange: function 78 -/
def impl_inRange.f (a0 a1 a2 : Int) : Option (Bool) := if a0 ≥ a1 then (some (decide (a0 ≤ a2))) else (some false)
theorem impl_inRange.calls (a0 a1 a2 : Int) (r : Bool) (w : World) (h : impl_inRange.f a0 a1 a2 = some r) :
  Calls Tryd.prog 78 #[.int .i64 a0, .int .i64 a1, .int .i64 a2] w fun e w' => e = .returned (.bool r) ∧ Drawn0 w w' := by
 unfold impl_inRange.f at h
 have H := h
 clear h
 replace H := zI1 H
 rcases H with ⟨c4, H⟩ | ⟨c4, H⟩
 ·have a3 : decide (a1 ≤ a0) = true := decide_eq_true c4; clear c4; obtain rfl := zm H
  go_enter Tryd.func78, Tryd.ntmps78
  go_wp2
  go_ret
  exact ⟨by first | rfl | (simp; done) | (simp [*]; done) | (simp; rw [Bool.eq_iff_iff]; simp; done), by repeat (first | exact Drawn0.refl _ | apply Drawn0.step)⟩
 have a3 : decide (a1 ≤ a0) = false := decide_eq_false c4
 clear c4
 obtain rfl := zm H
 go_enter Tryd.func78, Tryd.ntmps78
 go_wp2
 go_ret
 exact ⟨by first | rfl | (simp; done) | (simp [*]; done) | (simp; rw [Bool.eq_iff_iff]; simp; done), by repeat (first | exact Drawn0.refl _ | apply Drawn0.step)⟩
/-! ### impl_isFigure: function 79 -/
def impl_isFigure.f (a0 : Int) : Option (Bool) := if a0 ≥ 48 then (some (decide (a0 ≤ 57))) else (some false)
theorem impl_isFigure.calls (a0 : Int) (r : Bool) (w : World) (h : impl_isFigure.f a0 = some r) :
  Calls Tryd.prog 79 #[.int .u8 a0] w fun e w' => e = .returned (.bool r) ∧ Drawn0 w w' := by
 unfold impl_isFigure.f at h
 have H := h
 clear h
 replace H := zI1 H
 rcases H with ⟨c2, H⟩ | ⟨c2, H⟩
 ·have a1 : decide (48 ≤ a0) = true := decide_eq_true c2; clear c2; obtain rfl := zm H
  go_enter Tryd.func79, Tryd.ntmps79
  go_wp2
  go_ret
  exact ⟨by first | rfl | (simp; done) | (simp [*]; done) | (simp; rw [Bool.eq_iff_iff]; simp; done), by repeat (first | exact Drawn0.refl _ | apply Drawn0.step)⟩
 have a1 : decide (48 ≤ a0) = false := decide_eq_false c2
 clear c2
 obtain rfl := zm H
 go_enter Tryd.func79, Tryd.ntmps79
 go_wp2
 go_ret
 exact ⟨by first | rfl | (simp; done) | (simp [*]; done) | (simp; rw [Bool.eq_iff_iff]; simp; done), by repeat (first | exact Drawn0.refl _ | apply Drawn0.step)⟩
/-! ### impl_isSmall: function 127 -/
def impl_isSmall.f (a0 : Int) : Option (Bool) := if a0 ≥ 97 then (some (decide (a0 ≤ 122))) else (some false)
theorem impl_isSmall.calls (a0 : Int) (r : Bool) (w : World) (h : impl_isSmall.f a0 = some r) :
  Calls Tryd.prog 127 #[.int .u8 a0] w fun e w' => e = .returned (.bool r) ∧ Drawn0 w w' := by
 unfold impl_isSmall.f at h
 have H := h
 clear h
 replace H := zI1 H
 rcases H with ⟨c2, H⟩ | ⟨c2, H⟩
 ·have a1 : decide (97 ≤ a0) = true := decide_eq_true c2; clear c2; obtain rfl := zm H
  go_enter Tryd.func127, Tryd.ntmps127
  go_wp2
  go_ret
  exact ⟨by first | rfl | (simp; done) | (simp [*]; done) | (simp; rw [Bool.eq_iff_iff]; simp; done), by repeat (first | exact Drawn0.refl _ | apply Drawn0.step)⟩
 have a1 : decide (97 ≤ a0) = false := decide_eq_false c2
 clear c2
 obtain rfl := zm H
 go_enter Tryd.func127, Tryd.ntmps127
 go_wp2
 go_ret
 exact ⟨by first | rfl | (simp; done) | (simp [*]; done) | (simp; rw [Bool.eq_iff_iff]; simp; done), by repeat (first | exact Drawn0.refl _ | apply Drawn0.step)⟩
/-! ### impl_isPathByte: function 107 -/
def impl_isPathByte.f (a0 : Int) : Option (Bool) := (impl_isSmall.f a0).bind fun a1 => (if a1 = true then (some true) else ((impl_isFigure.f a0).bind fun a2 => (if a2 = true then (some true) else (if a0 = 46 then (some true) else (if a0 = 45 then (some true) else (some (a0 == 95)))))))
theorem impl_isPathByte.calls (a0 : Int) (r : Bool) (w : World) (h : impl_isPathByte.f a0 = some r) :
  Calls Tryd.prog 107 #[.int .u8 a0] w fun e w' => e = .returned (.bool r) ∧ Drawn0 w w' := by
 unfold impl_isPathByte.f at h
 have H := h
 clear h
 replace H := Option.bind_eq_some_iff.mp H
 obtain ⟨a7, a1, H⟩ := H
 try dsimp only at H
 have A2 := zA a1
 clear a1
 replace H := zB0 H
 rcases H with ⟨rfl, H⟩ | ⟨rfl, H⟩
 ·obtain rfl := zm H
  go_enter Tryd.func107, Tryd.ntmps107
  go_wp2_with (first | ((with_reducible refine zq 127 ?_); refine zg (some 4) Tryd.func127 #[.int .u8 a0] ?_; (with_reducible refine (impl_isSmall.calls a0 true _ A2.out).mono ?_); rintro e w' ⟨rfl, ⟨nd, rfl⟩⟩; refine ⟨_, rfl, ?_⟩))
  go_ret
  exact ⟨by first | rfl | (simp; done) | (simp [*]; done) | (simp; rw [Bool.eq_iff_iff]; simp; done), by repeat (first | exact Drawn0.refl _ | apply Drawn0.step)⟩
 replace H := Option.bind_eq_some_iff.mp H
 obtain ⟨a8, a2, H⟩ := H
 try dsimp only at H
 have A4 := zA a2
 clear a2
 replace H := zB0 H
 rcases H with ⟨rfl, H⟩ | ⟨rfl, H⟩
 ·obtain rfl := zm H
  go_enter Tryd.func107, Tryd.ntmps107
  go_wp2_with (first | ((with_reducible refine zq 127 ?_); refine zg (some 4) Tryd.func127 #[.int .u8 a0] ?_; (with_reducible refine (impl_isSmall.calls a0 false _ A2.out).mono ?_); rintro e w' ⟨rfl, ⟨nd, rfl⟩⟩; refine ⟨_, rfl, ?_⟩) | (go_at_call 79; (with_reducible refine (impl_isFigure.calls a0 true _ A4.out).mono ?_); rintro e w' ⟨rfl, ⟨nd, rfl⟩⟩))
  go_ret
  exact ⟨by first | rfl | (simp; done) | (simp [*]; done) | (simp; rw [Bool.eq_iff_iff]; simp; done), by repeat (first | exact Drawn0.refl _ | apply Drawn0.step)⟩
 replace H := zI1 H
 rcases H with ⟨c6, H⟩ | ⟨c6, H⟩
 ·have a3 := beq_iff_eq.mpr c6; have a4 := bne_eq_false_iff_eq.mpr c6; clear c6; obtain rfl := zm H
  go_enter Tryd.func107, Tryd.ntmps107
  go_wp2_with (first | ((with_reducible refine zq 127 ?_); refine zg (some 4) Tryd.func127 #[.int .u8 a0] ?_; (with_reducible refine (impl_isSmall.calls a0 false _ A2.out).mono ?_); rintro e w' ⟨rfl, ⟨nd, rfl⟩⟩; refine ⟨_, rfl, ?_⟩) | (go_at_call 79; (with_reducible refine (impl_isFigure.calls a0 false _ A4.out).mono ?_); rintro e w' ⟨rfl, ⟨nd, rfl⟩⟩))
  go_ret
  exact ⟨by first | rfl | (simp; done) | (simp [*]; done) | (simp; rw [Bool.eq_iff_iff]; simp; done), by repeat (first | exact Drawn0.refl _ | apply Drawn0.step)⟩
 have a3 := beq_eq_false_iff_ne.mpr c6
 have a4 := bne_iff_ne.mpr c6
 replace H := zI1 H
 rcases H with ⟨c7, H⟩ | ⟨c7, H⟩
 ·have a5 := beq_iff_eq.mpr c7; have a6 := bne_eq_false_iff_eq.mpr c7; clear c7; obtain rfl := zm H
  go_enter Tryd.func107, Tryd.ntmps107
  go_wp2_with (first | ((with_reducible refine zq 127 ?_); refine zg (some 4) Tryd.func127 #[.int .u8 a0] ?_; (with_reducible refine (impl_isSmall.calls a0 false _ A2.out).mono ?_); rintro e w' ⟨rfl, ⟨nd, rfl⟩⟩; refine ⟨_, rfl, ?_⟩) | (go_at_call 79; (with_reducible refine (impl_isFigure.calls a0 false _ A4.out).mono ?_); rintro e w' ⟨rfl, ⟨nd, rfl⟩⟩))
  go_ret
  exact ⟨by first | rfl | (simp; done) | (simp [*]; done) | (simp; rw [Bool.eq_iff_iff]; simp; done), by repeat (first | exact Drawn0.refl _ | apply Drawn0.step)⟩
 have a5 := beq_eq_false_iff_ne.mpr c7
 have a6 := bne_iff_ne.mpr c7
 obtain rfl := zm H
 go_enter Tryd.func107, Tryd.ntmps107
 go_wp2_with (first | ((with_reducible refine zq 127 ?_); refine zg (some 4) Tryd.func127 #[.int .u8 a0] ?_; (with_reducible refine (impl_isSmall.calls a0 false _ A2.out).mono ?_); rintro e w' ⟨rfl, ⟨nd, rfl⟩⟩; refine ⟨_, rfl, ?_⟩) | (go_at_call 79; (with_reducible refine (impl_isFigure.calls a0 false _ A4.out).mono ?_); rintro e w' ⟨rfl, ⟨nd, rfl⟩⟩))
 go_ret
 exact ⟨by first | rfl | (simp; done) | (simp [*]; done) | (simp; rw [Bool.eq_iff_iff]; simp; done), by repeat (first | exact Drawn0.refl _ | apply Drawn0.step)⟩
/-! ### impl_fileNameOk: function 74 -/
def impl_fileNameOk.l0 : Nat → ByteArray → Int → Option (Bool)
 | 0, _, _ => none
 | k + 1, x0, x3 => if x3 < (x0.size : Int) then (if 0 ≤ x3 then ((impl_isPathByte.f (bt x0 x3)).bind fun a0 => (if a0 = true then (impl_fileNameOk.l0 k x0 (wrap64 (x3 + 1))) else (some false))) else (none)) else ((impl_inRange.f (x0.size : Int) 1 12).bind fun a1 => (if a1 = true then (if x0.toList = ([46] : List UInt8) then (some false) else (some (x0.toList != ([46, 46] : List UInt8)))) else (some false)))
def impl_fileNameOk.f (k : Nat) (a0 : ByteArray) : Option (Bool) := impl_fileNameOk.l0 k a0 0
theorem impl_fileNameOk.calls (k : Nat) (a0 : ByteArray) (r : Bool) (w : World) (h : impl_fileNameOk.f k a0 = some r) :
  Calls Tryd.prog 74 #[.string a0] w fun e w' => e = .returned (.bool r) ∧ Drawn0 w w' := by
 unfold impl_fileNameOk.f at h
 have H := h
 clear h
 have H' := zA H
 clear H
 go_enter Tryd.func74, Tryd.ntmps74
 go_wp2
 go_loopg [3] k (fun kq v3 w' => ∃ (a1 : Int), v3 = .int .i64 a1 ∧ Aside0 (impl_fileNameOk.l0 kq a0 a1 = some r) ∧ Aside0 (kq ≤ k) ∧ Drawn0 w w')
 case atStart => exact ⟨(0), zS, H', ⟨Nat.le_refl _⟩, by repeat (first | exact Drawn0.refl _ | apply Drawn0.step)⟩
 case round =>
  clear H'; obtain ⟨a1, rfl, HA, a2, ⟨m1, rfl⟩⟩ := hrel
  cases gk with
  | zero => exact absurd HA.out (by simp [impl_fileNameOk.l0])
  | succ k1 =>
   have H := HA.out; clear HA; simp only [impl_fileNameOk.l0] at H; replace H := zI0 H
   rcases H with ⟨a5, H⟩ | ⟨a5, H⟩
   ·replace H := zD0 H; obtain ⟨a9, H⟩ := H; replace H := Option.bind_eq_some_iff.mp H; obtain ⟨b0, a3, H⟩ := H
    try dsimp only at H
    have A5 := zA a3; clear a3; replace H := zB0 H
    rcases H with ⟨rfl, H⟩ | ⟨rfl, H⟩
    ·have H' := zA H; clear H; have p4 : 0 ≤ (a1 : Int) := zD; have q4 : a1 < (a0.size : Int) := zD; have a6 := bt_at a0 a1; replace p4 := eq_true p4; replace q4 := eq_true q4
     go_wp2_with (first | ((with_reducible refine zq 107 ?_); refine zg (some 13) Tryd.func107 #[.int .u8 (bt a0 a1)] ?_; (with_reducible refine (impl_isPathByte.calls (bt a0 a1) true _ A5.out).mono ?_); rintro e w' ⟨rfl, ⟨nd, rfl⟩⟩; refine ⟨_, rfl, ?_⟩))
     go_roundg k1
     case measure => have := a2.out; omega
     case rel => exact ⟨(wrap64 (a1 + 1)), zS, H', ⟨by have := a2.out; omega⟩, by repeat (first | exact Drawn0.refl _ | apply Drawn0.step)⟩
    obtain rfl := zm H; have p4 : 0 ≤ (a1 : Int) := zD; have q4 : a1 < (a0.size : Int) := zD; have a6 := bt_at a0 a1; replace p4 := eq_true p4; replace q4 := eq_true q4
    go_wp2_with (first | ((with_reducible refine zq 107 ?_); refine zg (some 13) Tryd.func107 #[.int .u8 (bt a0 a1)] ?_; (with_reducible refine (impl_isPathByte.calls (bt a0 a1) false _ A5.out).mono ?_); rintro e w' ⟨rfl, ⟨nd, rfl⟩⟩; refine ⟨_, rfl, ?_⟩))
    go_ret
    exact ⟨by first | rfl | (simp; done) | (simp [*]; done) | (simp; rw [Bool.eq_iff_iff]; simp; done), by repeat (first | exact Drawn0.refl _ | apply Drawn0.step)⟩
   replace H := Option.bind_eq_some_iff.mp H; obtain ⟨b1, a4, H⟩ := H
   try dsimp only at H
   have A7 := zA a4; clear a4; replace H := zB0 H
   rcases H with ⟨rfl, H⟩ | ⟨rfl, H⟩
   ·replace H := zI1 H
    rcases H with ⟨c9, H⟩ | ⟨c9, H⟩
    ·have a7 := beq_iff_eq.mpr c9; have a8 := bne_eq_false_iff_eq.mpr c9; clear c9; obtain rfl := zm H
     go_wp2_with (first | ((with_reducible refine zq 78 ?_); refine zg (some 17) Tryd.func78 #[.int .i64 (a0.size : Int), .int .i64 1, .int .i64 12] ?_; (with_reducible refine (impl_inRange.calls (a0.size : Int) 1 12 true _ A7.out).mono ?_); rintro e w' ⟨rfl, ⟨nd, rfl⟩⟩; refine ⟨_, rfl, ?_⟩))
     go_ret
     exact ⟨by first | rfl | (simp; done) | (simp [*]; done) | (simp; rw [Bool.eq_iff_iff]; simp; done), by repeat (first | exact Drawn0.refl _ | apply Drawn0.step)⟩
    have a7 := beq_eq_false_iff_ne.mpr c9; have a8 := bne_iff_ne.mpr c9; obtain rfl := zm H
    go_wp2_with (first | ((with_reducible refine zq 78 ?_); refine zg (some 17) Tryd.func78 #[.int .i64 (a0.size : Int), .int .i64 1, .int .i64 12] ?_; (with_reducible refine (impl_inRange.calls (a0.size : Int) 1 12 true _ A7.out).mono ?_); rintro e w' ⟨rfl, ⟨nd, rfl⟩⟩; refine ⟨_, rfl, ?_⟩))
    go_ret
    exact ⟨by first | rfl | (simp; done) | (simp [*]; done) | (simp; rw [Bool.eq_iff_iff]; simp; done), by repeat (first | exact Drawn0.refl _ | apply Drawn0.step)⟩
   obtain rfl := zm H
   go_wp2_with (first | ((with_reducible refine zq 78 ?_); refine zg (some 17) Tryd.func78 #[.int .i64 (a0.size : Int), .int .i64 1, .int .i64 12] ?_; (with_reducible refine (impl_inRange.calls (a0.size : Int) 1 12 false _ A7.out).mono ?_); rintro e w' ⟨rfl, ⟨nd, rfl⟩⟩; refine ⟨_, rfl, ?_⟩))
   go_ret
   exact ⟨by first | rfl | (simp; done) | (simp [*]; done) | (simp; rw [Bool.eq_iff_iff]; simp; done), by repeat (first | exact Drawn0.refl _ | apply Drawn0.step)⟩
/-! ### impl_PathOk: function 28 -/
def impl_PathOk.l0 : Nat → List ByteArray → List ByteArray → Int → Int → Option (Bool)
 | 0, _, _, _, _ => none
 | k + 1, x3, x8, x9, a0 => if a0 < x9 then (if 0 ≤ a0 then (if a0 < (x8.length : Int) then ((impl_fileNameOk.f k (rdOf ByteArray.empty x8 a0)).bind fun a1 => (if a1 = true then (impl_PathOk.l0 k x3 x8 x9 (wrap64 (a0 + 1))) else (some false))) else (none)) else (none)) else (some (decide ((x3.length : Int) ≤ 4)))
def impl_PathOk.f (k : Nat) (a0 : ByteArray) : Option (Bool) := (strings_Split.f a0 (⟨#[47]⟩ : ByteArray)).bind fun a1 => (impl_PathOk.l0 k a1 a1 (a1.length : Int) 0)
theorem impl_PathOk.calls (k : Nat) (a0 : ByteArray) (r : Bool) (w : World) (hG : GW w) (h : impl_PathOk.f k a0 = some r) :
  Calls Tryd.prog 28 #[.string a0] w fun e w' => e = .returned (.bool r) ∧ Below w.heap.size w w' := by
 have HG := zA hG
 clear hG
 have HB := zA (Below.refl w.heap.size w)
 unfold impl_PathOk.f at h
 have H := h
 clear h
 replace H := Option.bind_eq_some_iff.mp H
 obtain ⟨a1, a8, H⟩ := H
 try dsimp only at H
 have A2 := zA a8
 clear a8
 have H' := zA H
 clear H
 go_enter Tryd.func28, Tryd.ntmps28
 go_wp2_with (first | ((with_reducible refine zq 73 ?_); refine zg (some 7) Tryd.func73 #[.string a0, .string (⟨#[47]⟩ : ByteArray)] ?_; (with_reducible refine (strings_Split.calls a0 (⟨#[47]⟩ : ByteArray) a1 _ ?s1 A2.out).mono ?_); (case s1 => exact GW.below HG.out (zB)); rintro e w3 ⟨c0, rfl, a9, hb⟩; refine ⟨_, rfl, ?_⟩; have a5 := zA (Kd.R_lower a9 (below_size (zB))); replace HB := zA (below_step (zB) hb); (try clear hb a9); obtain ⟨b0, b1, b4⟩ := Kd.R_slice a5.out; subst b4))
 go_loopg [10] k (fun kq b5 w' => ∃ (a2 : Int), b5 = .int .i64 a2 ∧ Aside0 (impl_PathOk.l0 kq a1 a1 (a1.length : Int) a2 = some r) ∧ Aside0 (kq ≤ k) ∧ Aside0 (Kd.R Kd.string 9 w' w.heap.size (fun _ => True) (.slice b0 a1.length b1) a1) ∧ Aside0 (Kd.R Kd.string 9 w' w.heap.size (fun _ => True) (.slice b0 a1.length b1) a1) ∧ Aside0 (Below w.heap.size w w'))
 case atStart => exact ⟨(0), zS, H', ⟨Nat.le_refl _⟩, ⟨zR a5.out⟩, ⟨zR a5.out⟩, ⟨zB⟩⟩
 case round =>
  clear H'
  try clear c2
  try clear p2
  obtain ⟨a2, rfl, HA, b2, b6, a6, HB⟩ := hrel
  cases gk with
  | zero => exact absurd HA.out (by simp [impl_PathOk.l0])
  | succ k1 =>
   have H := HA.out; clear HA; simp only [impl_PathOk.l0] at H; replace H := zI0 H
   rcases H with ⟨b7, H⟩ | ⟨b7, H⟩
   ·replace H := zD0 H; obtain ⟨c1, H⟩ := H; replace H := zD0 H; obtain ⟨c3, H⟩ := H; replace H := Option.bind_eq_some_iff.mp H; obtain ⟨c4, b3, H⟩ := H
    try dsimp only at H
    have A8 := zA b3; clear b3; replace H := zB0 H
    rcases H with ⟨rfl, H⟩ | ⟨rfl, H⟩
    ·have H' := zA H; clear H; have a3 : 0 ≤ (a2 : Int) := zD; have a4 : a2 < (a1.length : Int) := zD; obtain ⟨b8, a7, b9⟩ := Kd.at_string (Kd.R_reads' a6.out).2.2 a2 a3 a4; cases a7; replace a3 := eq_true a3; replace a4 := eq_true a4
     go_wp2_with (first | ((with_reducible refine zq 74 ?_); refine zg (some 15) Tryd.func74 #[.string (rdOf ByteArray.empty a1 a2)] ?_; (with_reducible refine (impl_fileNameOk.calls k1 (rdOf ByteArray.empty a1 a2) true _ A8.out).mono ?_); rintro e w' ⟨rfl, ⟨nd, rfl⟩⟩; refine ⟨_, rfl, ?_⟩))
     go_roundg k1
     case measure => have := b2.out; omega
     case rel => exact ⟨(wrap64 (a2 + 1)), zS, H', ⟨by have := b2.out; omega⟩, ⟨zR b6.out⟩, ⟨zR a6.out⟩, ⟨zB⟩⟩
    obtain rfl := zm H; have a3 : 0 ≤ (a2 : Int) := zD; have a4 : a2 < (a1.length : Int) := zD; obtain ⟨b8, a7, b9⟩ := Kd.at_string (Kd.R_reads' a6.out).2.2 a2 a3 a4; cases a7; replace a3 := eq_true a3; replace a4 := eq_true a4
    go_wp2_with (first | ((with_reducible refine zq 74 ?_); refine zg (some 15) Tryd.func74 #[.string (rdOf ByteArray.empty a1 a2)] ?_; (with_reducible refine (impl_fileNameOk.calls k1 (rdOf ByteArray.empty a1 a2) false _ A8.out).mono ?_); rintro e w' ⟨rfl, ⟨nd, rfl⟩⟩; refine ⟨_, rfl, ?_⟩))
    go_ret
    exact ⟨zE, zB⟩
   obtain rfl := zm H
   go_wp2
   go_ret
   exact ⟨zE, zB⟩
end Go.Proofs.YtbaeljcnbkeipaaDoor.PGC
