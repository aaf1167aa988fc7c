/- The walks of the functions that these laws reach, and what each comes to: printed by this session's program. -/
import Derived.Test.YtglhniiabhknoaaDoorZGAPGAx0
import Derived.Test.YtglhniiabhknoaaDoorZGAPGAx5
import Derived.Test.YtglhniiabhknoaaDoorZGASays
import Derived.Test.YtglhniiabhknoaaDoorZGARegs
import Derived.Test.YtglhniiabhknoaaDoorZGAPGAx1
namespace Go.Proofs.YtglhniiabhknoaaDoor.PGA
open Go.RowKit YtglhniiabhknoaaDoorW.PrintWords YtglhniiabhknoaaDoorW.PrintLast YtglhniiabhknoaaDoorW.PrintMore
attribute [local go_sem high] Mine.str_gtr Mine.str_leq Mine.str_geq
attribute [local go_sem] max2_int min2_int max_two min_two max_three min_three max_four min_four   -- for this text's walks alone
set_option linter.unusedVariables false
set_option maxHeartbeats 8000000
set_option maxRecDepth 100000
set_option linter.unusedSimpArgs false
/-! ### impl_ValText: function 7 -/
def impl_ValText.f (k : Nat) (a0 a1 : Int) (a2 : ByteArray) (a3 : List (S30)) (a4 : List ByteArray) : Option (ByteArray) := (impl_ValOk.f k a0 a1 a2 a3 a4).bind fun a5 => (if a5 = true then ((impl_Val_text.f k a0 a1 a2 a3 a4).bind fun a6 => (some a6)) else (some (⟨#[]⟩ : ByteArray)))
theorem impl_ValText.calls (k : Nat) (a2 a3 : Int) (a4 : ByteArray) (a6 : Option Addr) (a7 : Nat) (a0 : List (S30)) (a8 : Option Addr) (a9 : Nat) (a1 : List ByteArray) (r : ByteArray) (w : World) (b0 : Kd.C k30 w a6 a0.length a0) (b1 : a0.length ≤ a7) (b2 : Kd.C Kd.string w a8 a1.length a1) (b3 : a1.length ≤ a9) (hG : GW w) (h : impl_ValText.f k a2 a3 a4 a0 a1 = some r) :
  Calls Tryd.prog 7 #[.agg #[.int .i64 a2, .int .i64 a3, .string a4, .slice a6 a0.length a7, .slice a8 a1.length a9]] w fun e w' => e = .returned (.string r) ∧ Below w.heap.size w w' := by
 have c2 := Tryd.underlying30
 have b4 := zA b0
 have b5 := zA b1
 clear b0 b1
 have b6 := zA b2
 have b7 := zA b3
 clear b2 b3
 have HG := zA hG
 clear hG
 have HB := zA (Below.refl w.heap.size w)
 unfold impl_ValText.f at h
 have H := h
 clear h
 replace H := Option.bind_eq_some_iff.mp H
 obtain ⟨c0, b8, H⟩ := H
 try dsimp only at H
 have A2 := zA b8
 clear b8
 go_enter Tryd.func7, Tryd.ntmps7
 go_upto_if 5 with (first | ((with_reducible refine zd 1 ?_); refine ze 1 30 #[.int .i64 a2, .int .i64 a3, .string a4, .slice a6 a0.length a7, .slice a8 a1.length a9] ?_; intro c3 hg w5 hbox hb; have a5 := zA (hbox); have c4 := zi HB hg; have c5 := zi HB hg; replace HB := zA (below_step (zB) hb); clear hb hbox hg; obtain ⟨c6, c7, c8, c9, d0, d1, d2, d3, d4, d5⟩ := ze5 a5.out) | ((with_reducible refine zq 15 ?_); refine zg (some 4) Tryd.func15 #[.agg #[.int .i64 a2, .int .i64 a3, .string a4, .slice a6 a0.length a7, .slice a8 a1.length a9]] ?_; (with_reducible refine (impl_ValOk.calls k a2 a3 a4 _ _ a0 _ _ a1 c0 _ ?s1 ?s2 ?s3 ?s4 A2.out).mono ?_); (case s1 => exact zC (Kd.C_below b4.out HB.out)); (case s2 => exact b5.out); (case s3 => exact zC (Kd.C_below b6.out HB.out)); (case s4 => exact b7.out); rintro e w7 ⟨rfl, hb⟩; refine ⟨_, rfl, ?_⟩; replace a5 := zb a5 hb; replace HB := zh HB hb; (try clear hb)))
 (try simp only [Act.put, zT])
 replace H := zB0 H
 rcases H with ⟨rfl, H⟩ | ⟨rfl, H⟩
 ·replace H := Option.bind_eq_some_iff.mp H; obtain ⟨c1, b9, H⟩ := H
  try dsimp only at H
  have A4 := zA b9; clear b9; obtain rfl := zm H; obtain ⟨d6, d7, d8, d9, e0, e1, e2, e3, e4, e5⟩ := ze5 a5.out
  go_wp2_with (first | ((with_reducible refine zq 16 ?_); refine zg (some 7) Tryd.func16 #[.agg #[.int .i64 a2, .int .i64 a3, .string a4, .slice a6 a0.length a7, .slice a8 a1.length a9]] ?_; (with_reducible refine (impl_Val_text.calls k a2 a3 a4 _ _ a0 _ _ a1 c1 _ ?s1 ?s2 ?s3 ?s4 ?s5 A4.out).mono ?_); (case s1 => exact zC (Kd.C_below b4.out HB.out)); (case s2 => exact b5.out); (case s3 => exact zC (Kd.C_below b6.out HB.out)); (case s4 => exact b7.out); (case s5 => exact GW.below HG.out (zW HB.out)); rintro e w9 ⟨rfl, hb⟩; refine ⟨_, rfl, ?_⟩; replace a5 := zb a5 hb; replace HB := zh HB hb; (try clear hb)))
  go_ret
  exact ⟨zE, zW HB.out⟩
 obtain rfl := zm H
 go_wp2
 go_ret
 exact ⟨zE, zW HB.out⟩
/-! ### laws_eqStringS: function 18 -/
mutual
def laws_eqStringS.j0 : Nat → List ByteArray → List ByteArray → Option (Bool)
 | 0, _, _ => none
 | k + 1, x0, x1 => laws_eqStringS.l0 k x0 x1 0
def laws_eqStringS.l0 : Nat → List ByteArray → List ByteArray → Int → Option (Bool)
 | 0, _, _, _ => none
 | k + 1, x0, x1, x5 => if x5 < (x0.length : Int) then (if 0 ≤ x5 then (if x5 < (x1.length : Int) then (if (rdOf ByteArray.empty x0 x5).toList = (rdOf ByteArray.empty x1 x5).toList then (laws_eqStringS.l0 k x0 x1 (wrap64 (x5 + 1))) else (some false)) else (none)) else (none)) else (some true)
end
def laws_eqStringS.f (k : Nat) (l0 l1 : List ByteArray) : Option (Bool) := if (l0.length : Int) = (l1.length : Int) then (laws_eqStringS.j0 k l0 l1) else (some false)
theorem laws_eqStringS.calls (k : Nat) (A0 : Option Addr) (c0 : Nat) (l0 : List ByteArray) (A1 : Option Addr) (c1 : Nat) (l1 : List ByteArray) (r : Bool) (w : World) (b1 : Kd.C Kd.string w A0 l0.length l0) (b2 : l0.length ≤ c0) (b3 : Kd.C Kd.string w A1 l1.length l1) (b4 : l1.length ≤ c1) (h : laws_eqStringS.f k l0 l1 = some r) :
  Calls Tryd.prog 18 #[.slice A0 l0.length c0, .slice A1 l1.length c1] w fun e w' => e = .returned (.bool r) ∧ Drawn0 w w' := by
 have b5 := zA b1
 have d2 := zA b2
 clear b1 b2
 have b6 := zA b3
 have d3 := zA b4
 clear b3 b4
 unfold laws_eqStringS.f at h
 have H := h
 clear h
 have a6 := zA H
 clear H
 go_enter Tryd.func18, Tryd.ntmps18
 go_upto_if 10 with (fail)
 repeat (go_quiet (fail); go_upto_if 10 with (fail))
 go_cut [] (fun wc => ∃ (kq : Nat), Aside0 (laws_eqStringS.j0 kq l0 l1 = some r) ∧ Aside0 (kq ≤ k) ∧ Drawn0 w wc)
 case first =>
  have H := a6.out; clear a6; replace H := zI1 H
  rcases H with ⟨c4, H⟩ | ⟨c4, H⟩
  ·have a1 := beq_iff_eq.mpr c4; have a7 := bne_eq_false_iff_eq.mpr c4
   have a8 : (l0.length == l1.length) = true := by first | simpa using c4 | (simp at c4 ⊢; omega)
   clear c4
   (first | rw [a1] | (simp only [i64_w, i32_w]; rw [a1]) | skip)
   have H' := zA H; clear H
   go_wp2
   repeat (go_quiet (fail); try go_wp2)
   go_meet
   case rel => exact ⟨_, (by first | exact H' | (subst_vars; exact H')), ⟨by first | omega | exact Nat.le_refl _⟩, zv0⟩
  have a1 := beq_eq_false_iff_ne.mpr c4; have a7 := bne_iff_ne.mpr c4
  have a8 : (l0.length == l1.length) = false := by first | simpa using c4 | (simp at c4 ⊢; omega)
  (first | rw [a1] | (simp only [i64_w, i32_w]; rw [a1]) | skip)
  obtain rfl := zm H
  go_wp2
  repeat (go_quiet (fail); try go_wp2)
  go_ret
  exact ⟨by first | rfl | (simp; done) | (simp [*]; done) | (simp; rw [Bool.eq_iff_iff]; simp; done), zv0⟩
 case rest =>
  clear a6
  try clear c1
  try clear p2
  try clear c4
  try clear a1
  try clear a7
  try clear a8
  obtain ⟨kq, HA, b7, ⟨d4, rfl⟩⟩ := hcut
  cases kq with
  | zero => exact absurd HA.out (by simp [laws_eqStringS.j0])
  | succ b8 =>
   have H := HA.out; clear HA; simp only [laws_eqStringS.j0] at H; have H' := zA H; clear H
   go_wp2
   repeat (go_quiet (fail); try go_wp2)
   go_loopg [5] b8 (fun kq v5 w' => ∃ (a0 : Int), v5 = .int .i64 a0 ∧ Aside0 (laws_eqStringS.l0 kq l0 l1 a0 = some r) ∧ Aside0 (kq ≤ b8) ∧ Drawn0 w w')
   case atStart => exact ⟨(0), zS, H', ⟨Nat.le_refl _⟩, zv0⟩
   case round =>
    clear H'
    try clear c1
    try clear c2
    try clear p2
    try clear c4
    try clear a1
    try clear a7
    try clear a8
    try clear p2
    obtain ⟨a0, rfl, HA, b9, ⟨m2, rfl⟩⟩ := hrel
    cases gk with
    | zero => exact absurd HA.out (by simp [laws_eqStringS.l0])
    | succ k2 =>
     have H := HA.out; clear HA; simp only [laws_eqStringS.l0] at H; replace H := zI0 H
     rcases H with ⟨c3, H⟩ | ⟨c3, H⟩
     ·replace H := zD0 H; obtain ⟨d5, H⟩ := H; replace H := zD0 H; obtain ⟨d6, H⟩ := H; replace H := zI1 H
      rcases H with ⟨c8, H⟩ | ⟨c8, H⟩
      ·have c5 := beq_iff_eq.mpr c8; have c6 := bne_eq_false_iff_eq.mpr c8; clear c8; have H' := zA H; clear H; have a2 : 0 ≤ (a0 : Int) := zD; have a3 : a0 < (l0.length : Int) := zD; obtain ⟨c7, a9, c9⟩ := Kd.at_string b5.out a0 a2 a3; cases a9; replace a2 := eq_true a2; replace a3 := eq_true a3; have a4 : 0 ≤ (a0 : Int) := zD; have a5 : a0 < (l1.length : Int) := zD; obtain ⟨d0, b0, d1⟩ := Kd.at_string b6.out a0 a4 a5; cases b0; replace a4 := eq_true a4; replace a5 := eq_true a5
       go_wp2
       repeat (go_quiet (fail); try go_wp2)
       go_roundg k2
       case measure => have := b7.out; have := b9.out; omega
       case rel => exact ⟨(wrap64 (a0 + 1)), zS, H', ⟨by have := b7.out; have := b9.out; omega⟩, zv0⟩
      have c5 := beq_eq_false_iff_ne.mpr c8; have c6 := bne_iff_ne.mpr c8; obtain rfl := zm H; have a2 : 0 ≤ (a0 : Int) := zD; have a3 : a0 < (l0.length : Int) := zD; obtain ⟨c7, a9, c9⟩ := Kd.at_string b5.out a0 a2 a3; cases a9; replace a2 := eq_true a2; replace a3 := eq_true a3; have a4 : 0 ≤ (a0 : Int) := zD; have a5 : a0 < (l1.length : Int) := zD; obtain ⟨d0, b0, d1⟩ := Kd.at_string b6.out a0 a4 a5; cases b0; replace a4 := eq_true a4; replace a5 := eq_true a5
      go_wp2
      repeat (go_quiet (fail); try go_wp2)
      go_ret
      exact ⟨by first | rfl | (simp; done) | (simp [*]; done) | (simp; rw [Bool.eq_iff_iff]; simp; done), zv0⟩
     obtain rfl := zm H
     go_wp2
     repeat (go_quiet (fail); try go_wp2)
     go_ret
     exact ⟨by first | rfl | (simp; done) | (simp [*]; done) | (simp; rw [Bool.eq_iff_iff]; simp; done), zv0⟩
class laws_eqVal.Rec where
 f : Nat → Int → Int → ByteArray → List (S30) → List ByteArray → Int → Int → ByteArray → List (S30) → List ByteArray → Option (Bool)
class laws_eqVal.Rec.Ok [laws_eqVal.Rec] : Prop where
 calls : ∀ (k : Nat) (a4 : Int) (a5 : Int) (a6 : ByteArray) (a7 : Option Addr) (a8 : Nat) (a0 : List (S30)) (a9 : Option Addr) (b0 : Nat) (a1 : List ByteArray) (b1 : Int) (b2 : Int) (b3 : ByteArray) (b4 : Option Addr) (b5 : Nat) (a2 : List (S30)) (b6 : Option Addr) (b7 : Nat) (a3 : List ByteArray) (r : Bool) (w : World) (b8 : Kd.C k30 w a7 a0.length a0) (b9 : a0.length ≤ a8) (c0 : Kd.C Kd.string w a9 a1.length a1) (c1 : a1.length ≤ b0) (c2 : Kd.C k30 w b4 a2.length a2) (c3 : a2.length ≤ b5) (c4 : Kd.C Kd.string w b6 a3.length a3) (c5 : a3.length ≤ b7) (h : laws_eqVal.Rec.f k a4 a5 a6 a0 a1 b1 b2 b3 a2 a3 = some r),
  Calls Tryd.prog 8 #[.agg #[.int .i64 a4, .int .i64 a5, .string a6, .slice a7 a0.length a8, .slice a9 a1.length b0], .agg #[.int .i64 b1, .int .i64 b2, .string b3, .slice b4 a2.length b5, .slice b6 a3.length b7]] w fun e w' => e = .returned (.bool r) ∧ Below w.heap.size w w'
theorem laws_eqVal.Rec.calls [laws_eqVal.Rec] [o : laws_eqVal.Rec.Ok] : ∀ (k : Nat) (a4 a5 : Int) (a6 : ByteArray) (a7 : Option Addr) (a8 : Nat) (a0 : List (S30)) (a9 : Option Addr) (b0 : Nat) (a1 : List ByteArray) (b1 b2 : Int) (b3 : ByteArray) (b4 : Option Addr) (b5 : Nat) (a2 : List (S30)) (b6 : Option Addr) (b7 : Nat) (a3 : List ByteArray) (r : Bool) (w : World) (b8 : Kd.C k30 w a7 a0.length a0) (b9 : a0.length ≤ a8) (c0 : Kd.C Kd.string w a9 a1.length a1) (c1 : a1.length ≤ b0) (c2 : Kd.C k30 w b4 a2.length a2) (c3 : a2.length ≤ b5) (c4 : Kd.C Kd.string w b6 a3.length a3) (c5 : a3.length ≤ b7) (h : laws_eqVal.Rec.f k a4 a5 a6 a0 a1 b1 b2 b3 a2 a3 = some r),
  Calls Tryd.prog 8 #[.agg #[.int .i64 a4, .int .i64 a5, .string a6, .slice a7 a0.length a8, .slice a9 a1.length b0], .agg #[.int .i64 b1, .int .i64 b2, .string b3, .slice b4 a2.length b5, .slice b6 a3.length b7]] w fun e w' => e = .returned (.bool r) ∧ Below w.heap.size w w' := o.calls
section
set_option linter.unusedSectionVars false
variable [laws_eqVal.Rec] [laws_eqVal.Rec.Ok]
/-! ### laws_eqValS: function 17 -/
mutual
def laws_eqValS.j0 : Nat → List (S30) → List (S30) → Option (Bool)
 | 0, _, _ => none
 | k + 1, x0, x1 => laws_eqValS.l0 k x0 x1 0
def laws_eqValS.l0 : Nat → List (S30) → List (S30) → Int → Option (Bool)
 | 0, _, _, _ => none
 | k + 1, x0, x1, x5 => if x5 < (x0.length : Int) then (if 0 ≤ x5 then (if x5 < (x1.length : Int) then ((laws_eqVal.Rec.f k ((rd_T30 x0 x5).f0) ((rd_T30 x0 x5).f1) ((rd_T30 x0 x5).f2) ((rd_T30 x0 x5).f3) ((rd_T30 x0 x5).f4) ((rd_T30 x1 x5).f0) ((rd_T30 x1 x5).f1) ((rd_T30 x1 x5).f2) ((rd_T30 x1 x5).f3) ((rd_T30 x1 x5).f4)).bind fun a0 => (if a0 = true then (laws_eqValS.l0 k x0 x1 (wrap64 (x5 + 1))) else (some false))) else (none)) else (none)) else (some true)
end
def laws_eqValS.f (k : Nat) (l0 : List (S30)) (l1 : List (S30)) : Option (Bool) := if (l0.length : Int) = (l1.length : Int) then (laws_eqValS.j0 k l0 l1) else (some false)
def laws_eqValS.T6 : Bool × List (List Nat × List Nat) := (true, [([], []), ([], []), ([0, 1], [0, 1]), ([2], [2]), ([], []), ([], []), ([4, 5], [4, 5]), ([6], [6]), ([3, 7], [3, 7]), ([8], [8])])
def laws_eqValS.B6 : List Nat := [0, 0, 3, 7, 0, 0, 48, 112, 255, 511]
theorem laws_eqValS.tab6 : rtab .any (opsOf Tryd.f17 6) = laws_eqValS.T6 := by kernel_rfl
theorem laws_eqValS.bits6 : waitsOk laws_eqValS.T6.2 laws_eqValS.B6 = true := by kernel_rfl
theorem laws_eqValS.calls (k : Nat) (A0 : Option Addr) (c0 : Nat) (l0 : List (S30)) (A1 : Option Addr) (c1 : Nat) (l1 : List (S30)) (r : Bool) (w : World) (f5 : Kd.C k30 w A0 l0.length l0) (f6 : l0.length ≤ c0) (f7 : Kd.C k30 w A1 l1.length l1) (f8 : l1.length ≤ c1) (h : laws_eqValS.f k l0 l1 = some r) :
  Calls Tryd.prog 17 #[.slice A0 l0.length c0, .slice A1 l1.length c1] w fun e w' => e = .returned (.bool r) ∧ Below w.heap.size w w' := by
 have h6 := Tryd.underlying30
 have f9 := zA f5
 have h7 := zA f6
 clear f5 f6
 have g0 := zA f7
 have h8 := zA f8
 clear f7 f8
 have HB := zA (Below.refl w.heap.size w)
 unfold laws_eqValS.f at h
 have H := h
 clear h
 have e1 := zA H
 clear H
 go_enter Tryd.func17, Tryd.ntmps17
 go_upto_if 10 with (fail)
 go_cut [] (fun wc => ∃ (kq : Nat), Aside0 (laws_eqValS.j0 kq l0 l1 = some r) ∧ Aside0 (kq ≤ k) ∧ Aside0 (Below w.heap.size w wc))
 case first =>
  have H := e1.out; clear e1; replace H := zI1 H
  rcases H with ⟨c4, H⟩ | ⟨c4, H⟩
  ·have b3 := beq_iff_eq.mpr c4; have e2 := bne_eq_false_iff_eq.mpr c4
   have e3 : (l0.length == l1.length) = true := by first | simpa using c4 | (simp at c4 ⊢; omega)
   clear c4
   (first | rw [b3] | (simp only [i64_w, i32_w]; rw [b3]) | skip)
   have H' := zA H; clear H
   go_wp2
   go_meet
   case rel => exact ⟨_, (by first | exact H' | (subst_vars; exact H')), ⟨by first | omega | exact Nat.le_refl _⟩, ⟨zB⟩⟩
  have b3 := beq_eq_false_iff_ne.mpr c4; have e2 := bne_iff_ne.mpr c4
  have e3 : (l0.length == l1.length) = false := by first | simpa using c4 | (simp at c4 ⊢; omega)
  (first | rw [b3] | (simp only [i64_w, i32_w]; rw [b3]) | skip)
  obtain rfl := zm H
  go_wp2
  go_ret
  exact ⟨zE, zB⟩
 case rest =>
  clear e1
  try clear c1
  try clear p2
  try clear c4
  try clear b3
  try clear e2
  try clear e3
  obtain ⟨kq, HA, g1, HB⟩ := hcut
  cases kq with
  | zero => exact absurd HA.out (by simp [laws_eqValS.j0])
  | succ g2 =>
   have H := HA.out; clear HA; simp only [laws_eqValS.j0] at H; have H' := zA H; clear H
   go_wp2
   go_loopg [5] g2 (fun kq v5 w' => ∃ (a0 : Int), v5 = .int .i64 a0 ∧ Aside0 (laws_eqValS.l0 kq l0 l1 a0 = some r) ∧ Aside0 (kq ≤ g2) ∧ Aside0 (Below w.heap.size w w'))
   case atStart => exact ⟨(0), zS, H', ⟨Nat.le_refl _⟩, ⟨zB⟩⟩
   case round =>
    clear H'
    try clear c1
    try clear p2
    try clear c4
    try clear b3
    try clear e2
    try clear e3
    try clear p2
    obtain ⟨a0, rfl, HA, g3, HB⟩ := hrel
    cases gk with
    | zero => exact absurd HA.out (by simp [laws_eqValS.l0])
    | succ k2 =>
     have H := HA.out; clear HA; simp only [laws_eqValS.l0] at H; replace H := zI0 H
     rcases H with ⟨g5, H⟩ | ⟨g5, H⟩
     ·replace H := zD0 H; obtain ⟨h9, H⟩ := H; replace H := zD0 H; obtain ⟨i0, H⟩ := H; replace H := Option.bind_eq_some_iff.mp H; obtain ⟨i1, g4, H⟩ := H
      try dsimp only at H
      have A8 := zA g4; clear g4; replace H := zB0 H
      rcases H with ⟨rfl, H⟩ | ⟨rfl, H⟩
      ·have H' := zA H; clear H
       try go_wp2
       replace HB := zA (below_drew1 HB.out); have b4 : 0 ≤ (a0 : Int) := zD; have b5 : a0 < (l0.length : Int) := zD; obtain ⟨a1, b8, b9, c2, c3, e4, a3, a4, a5, a6, a7, c5, c6, c7, c8⟩ := at_T30 f9.out a0 b4 b5; have g6 := a7; have g7 := a6; have g8 := a5; have g9 := a4; have h0 := a3; cases e4; replace a3 := zx HB a3; replace a4 := zx HB a4; replace a5 := zx HB a5; replace a6 := zx HB a6; replace a7 := zx HB a7; have c9 := zA c6; have e5 := zA c5; clear c6 c5; have d0 := zA c8; have e6 := zA c7; clear c8 c7; replace b4 := eq_true b4; replace b5 := eq_true b5; have b6 : 0 ≤ (a0 : Int) := zD; have b7 : a0 < (l1.length : Int) := zD; obtain ⟨a2, d1, d2, d3, d4, e7, a8, a9, b0, b1, b2, d5, d6, d7, d8⟩ := at_T30 g0.out a0 b6 b7; have h1 := b2; have h2 := b1; have h3 := b0; have h4 := a9; have h5 := a8; cases e7; replace a8 := zx HB a8; replace a9 := zx HB a9; replace b0 := zx HB b0; replace b1 := zx HB b1; replace b2 := zx HB b2; have d9 := zA d6; have e8 := zA d5; clear d6 d5; have e0 := zA d8; have e9 := zA d7; clear d8 d7; replace b6 := eq_true b6; replace b7 := eq_true b7
       refine start_ (n := 10) (S := fun w' => w'.cell? (a1.add ((a0).toNat * 5)) = some (.int .i64 ((rd_T30 l0 a0).f0)) ∧ w'.cell? ⟨(a1.add ((a0).toNat * 5)).block, (a1.add ((a0).toNat * 5)).off + 1, none⟩ = some (.int .i64 ((rd_T30 l0 a0).f1)) ∧ w'.cell? ⟨(a1.add ((a0).toNat * 5)).block, (a1.add ((a0).toNat * 5)).off + 2, none⟩ = some (.string ((rd_T30 l0 a0).f2)) ∧ w'.cell? ⟨(a1.add ((a0).toNat * 5)).block, (a1.add ((a0).toNat * 5)).off + 3, none⟩ = some (.slice b8 ((rd_T30 l0 a0).f3).length b9) ∧ w'.cell? ⟨(a1.add ((a0).toNat * 5)).block, (a1.add ((a0).toNat * 5)).off + 4, none⟩ = some (.slice c2 ((rd_T30 l0 a0).f4).length c3) ∧ w'.cell? (a2.add ((a0).toNat * 5)) = some (.int .i64 ((rd_T30 l1 a0).f0)) ∧ w'.cell? ⟨(a2.add ((a0).toNat * 5)).block, (a2.add ((a0).toNat * 5)).off + 1, none⟩ = some (.int .i64 ((rd_T30 l1 a0).f1)) ∧ w'.cell? ⟨(a2.add ((a0).toNat * 5)).block, (a2.add ((a0).toNat * 5)).off + 2, none⟩ = some (.string ((rd_T30 l1 a0).f2)) ∧ w'.cell? ⟨(a2.add ((a0).toNat * 5)).block, (a2.add ((a0).toNat * 5)).off + 3, none⟩ = some (.slice d1 ((rd_T30 l1 a0).f3).length d2) ∧ w'.cell? ⟨(a2.add ((a0).toNat * 5)).block, (a2.add ((a0).toNat * 5)).off + 4, none⟩ = some (.slice d3 ((rd_T30 l1 a0).f4).length d4)) (ds := []) (Array.replicate 10 false) (by kernel_rfl) rfl rfl zO fun hHeld => ?_; refine with_tabW laws_eqValS.tab6 laws_eqValS.bits6 (fun HT_ HW_ => ?_)
       generalize wr.drew = i2 at HB c9 d0 d9 e0 a3 a4 a5 a6 a7 a8 a9 b0 b1 b2 hHeld ⊢; refine zp 0 17 ?_; refine zp 1 18 ?_; refine zp 2 19 ?_; refine zp 4 21 ?_; refine zp 5 22 ?_; refine zp 6 23 ?_; refine zt 3 20 ?_; refine zt 7 24 ?_
       refine zo 8 (some 25) fun K hK => ?_
       refine goes_ Tryd.func8 (by kernel_rfl) rfl #[.agg #[.int .i64 ((rd_T30 l0 a0).f0), .int .i64 ((rd_T30 l0 a0).f1), .string ((rd_T30 l0 a0).f2), .slice b8 ((rd_T30 l0 a0).f3).length b9, .slice c2 ((rd_T30 l0 a0).f4).length c3], .agg #[.int .i64 ((rd_T30 l1 a0).f0), .int .i64 ((rd_T30 l1 a0).f1), .string ((rd_T30 l1 a0).f2), .slice d1 ((rd_T30 l1 a0).f3).length d2, .slice d3 ((rd_T30 l1 a0).f4).length d4]] (by rfl) rfl rfl zM ?_
       with_reducible refine (laws_eqVal.Rec.calls k2 ((rd_T30 l0 a0).f0) ((rd_T30 l0 a0).f1) ((rd_T30 l0 a0).f2) _ _ ((rd_T30 l0 a0).f3) _ _ ((rd_T30 l0 a0).f4) ((rd_T30 l1 a0).f0) ((rd_T30 l1 a0).f1) ((rd_T30 l1 a0).f2) _ _ ((rd_T30 l1 a0).f3) _ _ ((rd_T30 l1 a0).f4) true _ ?s1 ?s2 ?s3 ?s4 ?s5 ?s6 ?s7 ?s8 A8.out).mono ?_
       (case s1 => exact zC (Kd.C_below c9.out HB.out))
       (case s2 => exact e5.out)
       (case s3 => exact zC (Kd.C_below d0.out HB.out))
       (case s4 => exact e6.out)
       (case s5 => exact zC (Kd.C_below d9.out HB.out))
       (case s6 => exact e8.out)
       (case s7 => exact zC (Kd.C_below e0.out HB.out))
       (case s8 => exact e9.out)
       rintro e i3 ⟨rfl, hb⟩
       refine ⟨_, rfl, ?_⟩
       replace HB := zA (below_step (zB) hb)
       (try clear hb)
       refine hK.out _ _ zO fun hHeld => ?_
       clear hK K; refine zn ?_; refine zp 9 26 ?_
       refine done_ (done_of HT_.out (by kernel_rfl)) ?_
       try go_wp2
       go_roundg k2
       case measure => have := g1.out; have := g3.out; omega
       case rel => exact ⟨(wrap64 (a0 + 1)), zS, H', ⟨by have := g1.out; have := g3.out; omega⟩, ⟨zB⟩⟩
      obtain rfl := zm H
      try go_wp2
      replace HB := zA (below_drew1 HB.out); have b4 : 0 ≤ (a0 : Int) := zD; have b5 : a0 < (l0.length : Int) := zD; obtain ⟨a1, b8, b9, c2, c3, e4, a3, a4, a5, a6, a7, c5, c6, c7, c8⟩ := at_T30 f9.out a0 b4 b5; have g6 := a7; have g7 := a6; have g8 := a5; have g9 := a4; have h0 := a3; cases e4; replace a3 := zx HB a3; replace a4 := zx HB a4; replace a5 := zx HB a5; replace a6 := zx HB a6; replace a7 := zx HB a7; have c9 := zA c6; have e5 := zA c5; clear c6 c5; have d0 := zA c8; have e6 := zA c7; clear c8 c7; replace b4 := eq_true b4; replace b5 := eq_true b5; have b6 : 0 ≤ (a0 : Int) := zD; have b7 : a0 < (l1.length : Int) := zD; obtain ⟨a2, d1, d2, d3, d4, e7, a8, a9, b0, b1, b2, d5, d6, d7, d8⟩ := at_T30 g0.out a0 b6 b7; have h1 := b2; have h2 := b1; have h3 := b0; have h4 := a9; have h5 := a8; cases e7; replace a8 := zx HB a8; replace a9 := zx HB a9; replace b0 := zx HB b0; replace b1 := zx HB b1; replace b2 := zx HB b2; have d9 := zA d6; have e8 := zA d5; clear d6 d5; have e0 := zA d8; have e9 := zA d7; clear d8 d7; replace b6 := eq_true b6; replace b7 := eq_true b7
      refine start_ (n := 10) (S := fun w' => w'.cell? (a1.add ((a0).toNat * 5)) = some (.int .i64 ((rd_T30 l0 a0).f0)) ∧ w'.cell? ⟨(a1.add ((a0).toNat * 5)).block, (a1.add ((a0).toNat * 5)).off + 1, none⟩ = some (.int .i64 ((rd_T30 l0 a0).f1)) ∧ w'.cell? ⟨(a1.add ((a0).toNat * 5)).block, (a1.add ((a0).toNat * 5)).off + 2, none⟩ = some (.string ((rd_T30 l0 a0).f2)) ∧ w'.cell? ⟨(a1.add ((a0).toNat * 5)).block, (a1.add ((a0).toNat * 5)).off + 3, none⟩ = some (.slice b8 ((rd_T30 l0 a0).f3).length b9) ∧ w'.cell? ⟨(a1.add ((a0).toNat * 5)).block, (a1.add ((a0).toNat * 5)).off + 4, none⟩ = some (.slice c2 ((rd_T30 l0 a0).f4).length c3) ∧ w'.cell? (a2.add ((a0).toNat * 5)) = some (.int .i64 ((rd_T30 l1 a0).f0)) ∧ w'.cell? ⟨(a2.add ((a0).toNat * 5)).block, (a2.add ((a0).toNat * 5)).off + 1, none⟩ = some (.int .i64 ((rd_T30 l1 a0).f1)) ∧ w'.cell? ⟨(a2.add ((a0).toNat * 5)).block, (a2.add ((a0).toNat * 5)).off + 2, none⟩ = some (.string ((rd_T30 l1 a0).f2)) ∧ w'.cell? ⟨(a2.add ((a0).toNat * 5)).block, (a2.add ((a0).toNat * 5)).off + 3, none⟩ = some (.slice d1 ((rd_T30 l1 a0).f3).length d2) ∧ w'.cell? ⟨(a2.add ((a0).toNat * 5)).block, (a2.add ((a0).toNat * 5)).off + 4, none⟩ = some (.slice d3 ((rd_T30 l1 a0).f4).length d4)) (ds := []) (Array.replicate 10 false) (by kernel_rfl) rfl rfl zO fun hHeld => ?_; refine with_tabW laws_eqValS.tab6 laws_eqValS.bits6 (fun HT_ HW_ => ?_)
      generalize wr.drew = i4 at HB c9 d0 d9 e0 a3 a4 a5 a6 a7 a8 a9 b0 b1 b2 hHeld ⊢; refine zp 0 17 ?_; refine zp 1 18 ?_; refine zp 2 19 ?_; refine zp 4 21 ?_; refine zp 5 22 ?_; refine zp 6 23 ?_; refine zt 3 20 ?_; refine zt 7 24 ?_
      refine zo 8 (some 25) fun K hK => ?_
      refine goes_ Tryd.func8 (by kernel_rfl) rfl #[.agg #[.int .i64 ((rd_T30 l0 a0).f0), .int .i64 ((rd_T30 l0 a0).f1), .string ((rd_T30 l0 a0).f2), .slice b8 ((rd_T30 l0 a0).f3).length b9, .slice c2 ((rd_T30 l0 a0).f4).length c3], .agg #[.int .i64 ((rd_T30 l1 a0).f0), .int .i64 ((rd_T30 l1 a0).f1), .string ((rd_T30 l1 a0).f2), .slice d1 ((rd_T30 l1 a0).f3).length d2, .slice d3 ((rd_T30 l1 a0).f4).length d4]] (by rfl) rfl rfl zM ?_
      with_reducible refine (laws_eqVal.Rec.calls k2 ((rd_T30 l0 a0).f0) ((rd_T30 l0 a0).f1) ((rd_T30 l0 a0).f2) _ _ ((rd_T30 l0 a0).f3) _ _ ((rd_T30 l0 a0).f4) ((rd_T30 l1 a0).f0) ((rd_T30 l1 a0).f1) ((rd_T30 l1 a0).f2) _ _ ((rd_T30 l1 a0).f3) _ _ ((rd_T30 l1 a0).f4) false _ ?s1 ?s2 ?s3 ?s4 ?s5 ?s6 ?s7 ?s8 A8.out).mono ?_
      (case s1 => exact zC (Kd.C_below c9.out HB.out))
      (case s2 => exact e5.out)
      (case s3 => exact zC (Kd.C_below d0.out HB.out))
      (case s4 => exact e6.out)
      (case s5 => exact zC (Kd.C_below d9.out HB.out))
      (case s6 => exact e8.out)
      (case s7 => exact zC (Kd.C_below e0.out HB.out))
      (case s8 => exact e9.out)
      rintro e i5 ⟨rfl, hb⟩
      refine ⟨_, rfl, ?_⟩
      replace HB := zA (below_step (zB) hb)
      (try clear hb)
      refine hK.out _ _ zO fun hHeld => ?_
      clear hK K; refine zn ?_; refine zp 9 26 ?_
      refine done_ (done_of HT_.out (by kernel_rfl)) ?_
      try go_wp2
      go_ret
      exact ⟨zE, zB⟩
     obtain rfl := zm H
     go_wp2
     go_ret
     exact ⟨zE, zB⟩
end
/-! ### laws_eqVal: function 8 -/
mutual
def laws_eqVal.j0 : Nat → Int → Int → ByteArray → List (S30) → List ByteArray → Int → Int → ByteArray → List (S30) → List ByteArray → Option (Bool)
 | 0, _, _, _, _, _, _, _, _, _, _ => none
 | k + 1, a8, a0, a1, a2, a3, a9, a4, a5, a6, a7 => if a0 = a4 then (laws_eqVal.j1 k a8 a0 a1 a2 a3 a9 a4 a5 a6 a7) else (some false)
def laws_eqVal.j1 : Nat → Int → Int → ByteArray → List (S30) → List ByteArray → Int → Int → ByteArray → List (S30) → List ByteArray → Option (Bool)
 | 0, _, _, _, _, _, _, _, _, _, _ => none
 | k + 1, a8, a0, a1, a2, a3, a9, a4, a5, a6, a7 => if a1.toList = a5.toList then (laws_eqVal.j2 k a8 a0 a1 a2 a3 a9 a4 a5 a6 a7) else (some false)
def laws_eqVal.j2 : Nat → Int → Int → ByteArray → List (S30) → List ByteArray → Int → Int → ByteArray → List (S30) → List ByteArray → Option (Bool)
 | 0, _, _, _, _, _, _, _, _, _, _ => none
 | k + 1, a8, a0, a1, a2, a3, a9, a4, a5, a6, a7 => (@laws_eqValS.f ⟨fun _ => laws_eqVal.f k⟩ k a2 a6).bind fun b2 => (if b2 = true then ((laws_eqStringS.f k a3 a7).bind fun b3 => (if b3 = true then (some true) else (some false))) else (some false))
def laws_eqVal.f : Nat → Int → Int → ByteArray → List (S30) → List ByteArray → Int → Int → ByteArray → List (S30) → List ByteArray → Option (Bool)
 | 0, _, _, _, _, _, _, _, _, _, _ => none
 | k + 1, b0, b4, b5, b6, b7, b1, b8, b9, c0, c1 => if b0 = b1 then (laws_eqVal.j0 k b0 b4 b5 b6 b7 b1 b8 b9 c0 c1) else (some false)
end
theorem laws_eqVal.calls (k : Nat) : ∀ (a7 a8 : Int) (a9 : ByteArray) (b0 : Option Addr) (b1 : Nat) (a2 : List (S30)) (b7 : Option Addr) (b8 : Nat) (a4 : List ByteArray) (b2 b3 : Int) (b4 : ByteArray) (b5 : Option Addr) (b6 : Nat) (a3 : List (S30)) (b9 : Option Addr) (c0 : Nat) (a5 : List ByteArray) (r : Bool) (w : World) (d5 : Kd.C k30 w b0 a2.length a2) (d6 : a2.length ≤ b1) (d7 : Kd.C Kd.string w b7 a4.length a4) (d8 : a4.length ≤ b8) (d9 : Kd.C k30 w b5 a3.length a3) (e0 : a3.length ≤ b6) (e1 : Kd.C Kd.string w b9 a5.length a5) (e2 : a5.length ≤ c0) (h : laws_eqVal.f k a7 a8 a9 a2 a4 b2 b3 b4 a3 a5 = some r),
  Calls Tryd.prog 8 #[.agg #[.int .i64 a7, .int .i64 a8, .string a9, .slice b0 a2.length b1, .slice b7 a4.length b8], .agg #[.int .i64 b2, .int .i64 b3, .string b4, .slice b5 a3.length b6, .slice b9 a5.length c0]] w fun e w' => e = .returned (.bool r) ∧ Below w.heap.size w w' := by
 induction k using Nat.strongRecOn with
 | _ k ih =>
 intro a7 a8 a9 b0 b1 a2 b7 b8 a4 b2 b3 b4 b5 b6 a3 b9 c0 a5 r w d5 d6 d7 d8 d9 e0 e1 e2 h
 cases k with
 | zero => exact absurd h (by simp [laws_eqVal.f])
 | succ k =>
 simp only [laws_eqVal.f] at h
 have m8 := Tryd.underlying30
 have e3 := zA d5
 have e4 := zA d6
 clear d5 d6
 have h5 := zA d7
 have h6 := zA d8
 clear d7 d8
 have e5 := zA d9
 have e6 := zA e0
 clear d9 e0
 have h7 := zA e1
 have h8 := zA e2
 clear e1 e2
 have HB := zA (Below.refl w.heap.size w)
 have H := h
 clear h
 have e7 := zA H
 clear H
 go_enter Tryd.func8, Tryd.ntmps8
 go_upto_if 9 with (first | ((with_reducible refine zd 2 ?_); refine ze 2 30 #[.int .i64 a7, .int .i64 a8, .string a9, .slice b0 a2.length b1, .slice b7 a4.length b8] ?_; intro e8 hg w4 hbox hb; have a0 := zA (hbox); have m9 := zi HB hg; have n0 := zi HB hg; replace HB := zA (below_step (zB) hb); clear hb hbox hg) | ((with_reducible refine zd 3 ?_); refine ze 3 30 #[.int .i64 b2, .int .i64 b3, .string b4, .slice b5 a3.length b6, .slice b9 a5.length c0] ?_; intro e9 hg w5 hbox hb; have a1 := zA (hbox); have n1 := zi HB hg; have n2 := zi HB hg; replace HB := zh HB hb; have c7 := zA (zL hg (zK a0.out)); have d0 := zA (zJ hg (zK a0.out)); replace a0 := zb a0 hb; clear hb hbox hg; have n3 := c7.out; have n4 := d0.out; obtain ⟨f0, f1, f2, f3, f4, f5, f6, f7, f8, f9⟩ := ze5 a0.out; obtain ⟨g0, g1, g2, g3, g4, g5, g6, g7, g8, g9⟩ := ze5 a1.out))
 (try simp only [Act.put, zT])
 go_cut [] (fun wc => ∃ (kq : Nat), Aside0 (laws_eqVal.j0 kq a7 a8 a9 a2 a4 b2 b3 b4 a3 a5 = some r) ∧ Aside0 (kq ≤ k) ∧ Aside0 (wc.heap[e8]? = some (.cells #[.int .i64 a7, .int .i64 a8, .string a9, (.slice b0 a2.length b1), (.slice b7 a4.length b8)] 30 (0, 0))) ∧ Aside0 (wc.heap[e9]? = some (.cells #[.int .i64 b2, .int .i64 b3, .string b4, (.slice b5 a3.length b6), (.slice b9 a5.length c0)] 30 (0, 0))) ∧ Aside0 (Below w.heap.size w wc))
 case first =>
  have H := e7.out; clear e7; replace H := zI1 H
  rcases H with ⟨c9, H⟩ | ⟨c9, H⟩
  ·have c2 := beq_iff_eq.mpr c9; have d3 := bne_eq_false_iff_eq.mpr c9; clear c9
   (first | rw [c2] | (simp only [i64_w, i32_w]; rw [c2]) | skip)
   have H' := zA H; clear H
   go_wp2
   go_meet
   case rel => exact ⟨_, (by first | exact H' | (subst_vars; exact H')), ⟨by first | omega | exact Nat.le_refl _⟩, ⟨zK a0.out⟩, ⟨zK a1.out⟩, ⟨zW HB.out⟩⟩
  have c2 := beq_eq_false_iff_ne.mpr c9; have d3 := bne_iff_ne.mpr c9
  (first | rw [c2] | (simp only [i64_w, i32_w]; rw [c2]) | skip)
  obtain rfl := zm H
  go_wp2
  go_ret
  exact ⟨zE, zW HB.out⟩
 case rest =>
  clear e7
  try clear c1
  try clear p2
  try clear c6
  try clear c8
  try clear c9
  try clear c2
  try clear d3
  try clear f0 f1 f2 f3 f4 f5 f6 f7 f8 f9
  try clear g0 g1 g2 g3 g4 g5 g6 g7 g8 g9
  obtain ⟨kq, HA, d2, a0, a1, HB⟩ := hcut
  cases kq with
  | zero => exact absurd HA.out (by simp [laws_eqVal.j0])
  | succ k6 =>
   have H := HA.out; clear HA; simp only [laws_eqVal.j0] at H; have h0 := zA H; clear H; have n5 := c7.out; have n6 := d0.out; obtain ⟨h9, i0, i1, i2, i3, i4, i5, i6, i7, i8⟩ := ze5 a0.out; obtain ⟨i9, j3, j4, j5, j6, j7, j8, j9, k0, k1⟩ := ze5 a1.out
   go_upto_if 14 with (fail)
   go_cut [] (fun wc => ∃ (kq : Nat), Aside0 (laws_eqVal.j1 kq a7 a8 a9 a2 a4 b2 b3 b4 a3 a5 = some r) ∧ Aside0 (kq ≤ k6) ∧ Aside0 (wc.heap[e8]? = some (.cells #[.int .i64 a7, .int .i64 a8, .string a9, (.slice b0 a2.length b1), (.slice b7 a4.length b8)] 30 (0, 0))) ∧ Aside0 (wc.heap[e9]? = some (.cells #[.int .i64 b2, .int .i64 b3, .string b4, (.slice b5 a3.length b6), (.slice b9 a5.length c0)] 30 (0, 0))) ∧ Aside0 (Below w.heap.size w wc))
   case first =>
    have H := h0.out; clear h0; replace H := zI1 H
    rcases H with ⟨c3, H⟩ | ⟨c3, H⟩
    ·have c4 := beq_iff_eq.mpr c3; have h1 := bne_eq_false_iff_eq.mpr c3; clear c3
     (first | rw [c4] | (simp only [i64_w, i32_w]; rw [c4]) | skip)
     have H' := zA H; clear H
     go_wp2
     go_meet
     case rel => exact ⟨_, (by first | exact H' | (subst_vars; exact H')), ⟨by have := d2.out; first | omega | exact Nat.le_refl _⟩, ⟨zK a0.out⟩, ⟨zK a1.out⟩, ⟨zW HB.out⟩⟩
    have c4 := beq_eq_false_iff_ne.mpr c3; have h1 := bne_iff_ne.mpr c3
    (first | rw [c4] | (simp only [i64_w, i32_w]; rw [c4]) | skip)
    obtain rfl := zm H
    go_wp2
    go_ret
    exact ⟨zE, zW HB.out⟩
   case rest =>
    clear h0
    try clear c1
    try clear p2
    try clear c6
    try clear c8
    try clear c9
    try clear c2
    try clear d3
    try clear c11
    try clear c3
    try clear c4
    try clear h1
    try clear h9 i0 i1 i2 i3 i4 i5 i6 i7 i8
    try clear i9 j3 j4 j5 j6 j7 j8 j9 k0 k1
    try clear f0 f1 f2 f3 f4 f5 f6 f7 f8 f9
    try clear g0 g1 g2 g3 g4 g5 g6 g7 g8 g9
    try clear p2
    obtain ⟨kq, HA, d4, a0, a1, HB⟩ := hcut
    cases kq with
    | zero => exact absurd HA.out (by simp [laws_eqVal.j1])
    | succ k7 =>
     have H := HA.out; clear HA; simp only [laws_eqVal.j1] at H; have h2 := zA H; clear H; have n7 := c7.out; have n8 := d0.out; obtain ⟨k8, k9, l0, l1, l2, l3, l4, l5, l6, l7⟩ := ze5 a0.out; obtain ⟨l8, l9, m0, m1, m2, m3, m4, m5, m6, m7⟩ := ze5 a1.out
     go_upto_if 19 with (fail)
     go_cut [] (fun wc => ∃ (kq : Nat), Aside0 (laws_eqVal.j2 kq a7 a8 a9 a2 a4 b2 b3 b4 a3 a5 = some r) ∧ Aside0 (kq ≤ k7) ∧ Aside0 (wc.heap[e8]? = some (.cells #[.int .i64 a7, .int .i64 a8, .string a9, (.slice b0 a2.length b1), (.slice b7 a4.length b8)] 30 (0, 0))) ∧ Aside0 (wc.heap[e9]? = some (.cells #[.int .i64 b2, .int .i64 b3, .string b4, (.slice b5 a3.length b6), (.slice b9 a5.length c0)] 30 (0, 0))) ∧ Aside0 (Below w.heap.size w wc))
     case first =>
      have H := h2.out; clear h2; replace H := zI1 H
      rcases H with ⟨c5, H⟩ | ⟨c5, H⟩
      ·have d1 := beq_iff_eq.mpr c5; have k2 := bne_eq_false_iff_eq.mpr c5; clear c5
       (first | rw [d1] | (simp only [i64_w, i32_w]; rw [d1]) | skip)
       have H' := zA H; clear H
       go_wp2
       go_meet
       case rel => exact ⟨_, (by first | exact H' | (subst_vars; exact H')), ⟨by have := d2.out; have := d4.out; first | omega | exact Nat.le_refl _⟩, ⟨zK a0.out⟩, ⟨zK a1.out⟩, ⟨zW HB.out⟩⟩
      have d1 := beq_eq_false_iff_ne.mpr c5; have k2 := bne_iff_ne.mpr c5
      (first | rw [d1] | (simp only [i64_w, i32_w]; rw [d1]) | skip)
      obtain rfl := zm H
      go_wp2
      go_ret
      exact ⟨zE, zW HB.out⟩
     case rest =>
      clear h2
      try clear c1
      try clear p2
      try clear c6
      try clear c8
      try clear c9
      try clear c2
      try clear d3
      try clear c11
      try clear c3
      try clear c4
      try clear h1
      try clear c16
      try clear c5
      try clear d1
      try clear k2
      try clear h9 i0 i1 i2 i3 i4 i5 i6 i7 i8
      try clear i9 j3 j4 j5 j6 j7 j8 j9 k0 k1
      try clear k8 k9 l0 l1 l2 l3 l4 l5 l6 l7
      try clear l8 l9 m0 m1 m2 m3 m4 m5 m6 m7
      try clear f0 f1 f2 f3 f4 f5 f6 f7 f8 f9
      try clear g0 g1 g2 g3 g4 g5 g6 g7 g8 g9
      try clear p2
      obtain ⟨kq, HA, h3, a0, a1, HB⟩ := hcut
      cases kq with
      | zero => exact absurd HA.out (by simp [laws_eqVal.j2])
      | succ a6 =>
       have H := HA.out; clear HA; simp only [laws_eqVal.j2] at H; replace H := Option.bind_eq_some_iff.mp H; obtain ⟨n9, k3, H⟩ := H
       try dsimp only at H
       have h4 := zA k3; clear k3; replace H := zB0 H
       rcases H with ⟨rfl, H⟩ | ⟨rfl, H⟩
       ·replace H := Option.bind_eq_some_iff.mp H; obtain ⟨o0, k4, H⟩ := H
        try dsimp only at H
        have k5 := zA k4; clear k4; replace H := zB0 H
        rcases H with ⟨rfl, H⟩ | ⟨rfl, H⟩
        ·obtain rfl := zm H; have o1 := c7.out; have o2 := d0.out; obtain ⟨o3, o4, o5, o6, o7, o8, o9, p0, p1, p3⟩ := ze5 a0.out; obtain ⟨p4, p5, p6, p7, p8, p9, q0, q1, q2, q3⟩ := ze5 a1.out
         go_wp2_with (first | ((with_reducible refine zq 17 ?_); refine zg (some 24) Tryd.func17 #[.slice b0 a2.length b1, .slice b5 a3.length b6] ?_; (refine (@laws_eqValS.calls ⟨fun _ => laws_eqVal.f a6⟩ (@laws_eqVal.Rec.Ok.mk ⟨fun _ => laws_eqVal.f a6⟩ (fun _ => ih a6 (by have := d2.out; have := d4.out; have := h3.out; omega))) a6 _ _ a2 _ _ a3 true _ ?s1 ?s2 ?s3 ?s4 h4.out).mono ?_); (case s1 => exact zC (Kd.C_below e3.out HB.out)); (case s2 => exact e4.out); (case s3 => exact zC (Kd.C_below e5.out HB.out)); (case s4 => exact e6.out); rintro e q4 ⟨rfl, hb⟩; refine ⟨_, rfl, ?_⟩; replace a0 := zb a0 hb; replace a1 := zb a1 hb; replace HB := zh HB hb; (try clear hb); obtain ⟨q5, q6, q7, q8, q9, r0, r1, r2, r3, r4⟩ := ze5 a0.out; obtain ⟨r5, r6, r7, r8, r9, t0, t1, t2, t3, t4⟩ := ze5 a1.out) | ((with_reducible refine zq 18 ?_); refine zg (some 30) Tryd.func18 #[.slice b7 a4.length b8, .slice b9 a5.length c0] ?_; (with_reducible refine (laws_eqStringS.calls a6 _ _ a4 _ _ a5 true _ ?s1 ?s2 ?s3 ?s4 k5.out).mono ?_); (case s1 => exact zC (Kd.C_below h5.out HB.out)); (case s2 => exact h6.out); (case s3 => exact zC (Kd.C_below h7.out HB.out)); (case s4 => exact h8.out); rintro e w' ⟨rfl, ⟨nd, rfl⟩⟩; refine ⟨_, rfl, ?_⟩))
         go_ret
         exact ⟨zE, zW HB.out⟩
        obtain rfl := zm H; have t5 := c7.out; have t6 := d0.out; obtain ⟨t7, t8, t9, v0, v1, v2, v3, v4, v5, v6⟩ := ze5 a0.out; obtain ⟨v7, v8, v9, x0, x1, x2, x3, x4, x5, x6⟩ := ze5 a1.out
        go_wp2_with (first | ((with_reducible refine zq 17 ?_); refine zg (some 24) Tryd.func17 #[.slice b0 a2.length b1, .slice b5 a3.length b6] ?_; (refine (@laws_eqValS.calls ⟨fun _ => laws_eqVal.f a6⟩ (@laws_eqVal.Rec.Ok.mk ⟨fun _ => laws_eqVal.f a6⟩ (fun _ => ih a6 (by have := d2.out; have := d4.out; have := h3.out; omega))) a6 _ _ a2 _ _ a3 true _ ?s1 ?s2 ?s3 ?s4 h4.out).mono ?_); (case s1 => exact zC (Kd.C_below e3.out HB.out)); (case s2 => exact e4.out); (case s3 => exact zC (Kd.C_below e5.out HB.out)); (case s4 => exact e6.out); rintro e x7 ⟨rfl, hb⟩; refine ⟨_, rfl, ?_⟩; replace a0 := zb a0 hb; replace a1 := zb a1 hb; replace HB := zh HB hb; (try clear hb); obtain ⟨x8, x9, y0, y1, y2, y3, y4, y5, y6, y7⟩ := ze5 a0.out; obtain ⟨y8, y9, z0, z1, z2, z3, z4, z5, z6, z7⟩ := ze5 a1.out) | ((with_reducible refine zq 18 ?_); refine zg (some 30) Tryd.func18 #[.slice b7 a4.length b8, .slice b9 a5.length c0] ?_; (with_reducible refine (laws_eqStringS.calls a6 _ _ a4 _ _ a5 false _ ?s1 ?s2 ?s3 ?s4 k5.out).mono ?_); (case s1 => exact zC (Kd.C_below h5.out HB.out)); (case s2 => exact h6.out); (case s3 => exact zC (Kd.C_below h7.out HB.out)); (case s4 => exact h8.out); rintro e w' ⟨rfl, ⟨nd, rfl⟩⟩; refine ⟨_, rfl, ?_⟩))
        go_ret
        exact ⟨zE, zW HB.out⟩
       obtain rfl := zm H; have z8 := c7.out; have z9 := d0.out; obtain ⟨A0, A1, A2, A3, A4, A5, A6, A7, A8, A9⟩ := ze5 a0.out; obtain ⟨B0, B1, B2, B3, B4, B5, B6, B7, B8, B9⟩ := ze5 a1.out
       go_wp2_with (first | ((with_reducible refine zq 17 ?_); refine zg (some 24) Tryd.func17 #[.slice b0 a2.length b1, .slice b5 a3.length b6] ?_; (refine (@laws_eqValS.calls ⟨fun _ => laws_eqVal.f a6⟩ (@laws_eqVal.Rec.Ok.mk ⟨fun _ => laws_eqVal.f a6⟩ (fun _ => ih a6 (by have := d2.out; have := d4.out; have := h3.out; omega))) a6 _ _ a2 _ _ a3 false _ ?s1 ?s2 ?s3 ?s4 h4.out).mono ?_); (case s1 => exact zC (Kd.C_below e3.out HB.out)); (case s2 => exact e4.out); (case s3 => exact zC (Kd.C_below e5.out HB.out)); (case s4 => exact e6.out); rintro e C0 ⟨rfl, hb⟩; refine ⟨_, rfl, ?_⟩; replace a0 := zb a0 hb; replace a1 := zb a1 hb; replace HB := zh HB hb; (try clear hb)))
       go_ret
       exact ⟨zE, zW HB.out⟩
/-! ### laws_FnExactValText: function 3 -/
mutual
def laws_FnExactValText.j0 : Nat → Int → Int → ByteArray → List (S25) → List ByteArray → Option (Bool)
 | 0, _, _, _, _, _ => none
 | k + 1, a1, a2, a3, a4, a5 => (laws_toVal.f k a1 a2 a3 a4 a5).bind fun a6 => ((spec_ValText.f k a6.1 a6.2.1 a6.2.2.1 a6.2.2.2.1 a6.2.2.2.2).bind fun a8 => ((laws_toVal.f k a1 a2 a3 a4 a5).bind fun a0 => ((impl_ValText.f k a0.1 a0.2.1 a0.2.2.1 a0.2.2.2.1 a0.2.2.2.2).bind fun a9 => (if a9.toList = a8.toList then (laws_FnExactValText.j1 k a1 a2 a3 a4 a5 a0.1 a0.2.1 a0.2.2.1 a0.2.2.2.1 a0.2.2.2.2) else (none)))))
def laws_FnExactValText.j1 : Nat → Int → Int → ByteArray → List (S25) → List ByteArray → Int → Int → ByteArray → List (S30) → List ByteArray → Option (Bool)
 | 0, _, _, _, _, _, _, _, _, _, _ => none
 | k + 1, a1, a2, a3, a4, a5, b0, b1, b2, b3, b4 => (laws_toVal.f k a1 a2 a3 a4 a5).bind fun a7 => ((laws_eqVal.f k b0 b1 b2 b3 b4 a7.1 a7.2.1 a7.2.2.1 a7.2.2.2.1 a7.2.2.2.2).bind fun b5 => (if b5 = true then (some true) else (none)))
end
def laws_FnExactValText.f (k : Nat) (a0 a1 : Int) (a2 : ByteArray) (a3 : List (S25)) (a4 : List ByteArray) : Option (Bool) := (laws_szVal.f k a0 a1 a2 a3 a4 1048576).bind fun a5 => (if a5 < 0 then (some true) else (laws_FnExactValText.j0 k a0 a1 a2 a3 a4))
theorem laws_FnExactValText.calls (k : Nat) (a7 a8 : Int) (a9 : ByteArray) (c1 : Option Addr) (c8 : Nat) (a2 : List (S25)) (c9 : Option Addr) (d0 : Nat) (a3 : List ByteArray) (r : Bool) (w : World) (g2 : Kd.C k25 w c1 a2.length a2) (g3 : a2.length ≤ c8) (g4 : Kd.C Kd.string w c9 a3.length a3) (g5 : a3.length ≤ d0) (hG : GW w) (h : laws_FnExactValText.f k a7 a8 a9 a2 a3 = some r) :
  Calls Tryd.prog 3 #[.agg #[.int .i64 a7, .int .i64 a8, .string a9, .slice c1 a2.length c8, .slice c9 a3.length d0]] w fun e w' => e = .returned (.bool r) ∧ Below w.heap.size w w' := by
 have n9 := Tryd.underlying25
 have o0 := Tryd.underlying30
 have e1 := zA g2
 have e2 := zA g3
 clear g2 g3
 have e3 := zA g4
 have e4 := zA g5
 clear g4 g5
 have HG := zA hG
 clear hG
 have HB := zA (Below.refl w.heap.size w)
 unfold laws_FnExactValText.f at h
 have H := h
 clear h
 replace H := Option.bind_eq_some_iff.mp H
 obtain ⟨i8, g6, H⟩ := H
 try dsimp only at H
 have A2 := zA g6
 clear g6
 have e7 := zA H
 clear H
 go_enter Tryd.func3, Tryd.ntmps3
 go_upto_if 11 with (first | ((with_reducible refine zd 1 ?_); refine ze 1 25 #[.int .i64 a7, .int .i64 a8, .string a9, .slice c1 a2.length c8, .slice c9 a3.length d0] ?_; intro d5 hg w4 hbox hb; have a1 := zA (hbox); have o1 := zi HB hg; have o2 := zi HB hg; replace HB := zA (below_step (zB) hb); clear hb hbox hg; obtain ⟨g7, g8, g9, h0, h1, h2, h3, h4, h5, h6⟩ := ze5 a1.out) | ((with_reducible refine zq 4 ?_); refine zg (some 9) Tryd.func4 #[.agg #[.int .i64 a7, .int .i64 a8, .string a9, .slice c1 a2.length c8, .slice c9 a3.length d0], .int .i64 1048576] ?_; (with_reducible refine (laws_szVal.calls k a7 a8 a9 _ _ a2 _ _ a3 1048576 i8 _ ?s1 ?s2 ?s3 ?s4 A2.out).mono ?_); (case s1 => exact zC (Kd.C_below e1.out HB.out)); (case s2 => exact e2.out); (case s3 => exact zC (Kd.C_below e3.out HB.out)); (case s4 => exact e4.out); rintro e w6 ⟨rfl, hb⟩; refine ⟨_, rfl, ?_⟩; replace a1 := zb a1 hb; replace HB := zh HB hb; (try clear hb)))
 (try simp only [Act.put, zT])
 go_cut [] (fun wc => ∃ (kq : Nat), Aside0 (laws_FnExactValText.j0 kq a7 a8 a9 a2 a3 = some r) ∧ Aside0 (kq ≤ k) ∧ Aside0 (wc.heap[d5]? = some (.cells #[.int .i64 a7, .int .i64 a8, .string a9, (.slice c1 a2.length c8), (.slice c9 a3.length d0)] 25 (0, 0))) ∧ Aside0 (Below w.heap.size w wc))
 case first =>
  have H := e7.out; clear e7; replace H := zI0 H
  rcases H with ⟨d6, H⟩ | ⟨d6, H⟩
  ·(first | rw [d6] | (simp only [i64_w, i32_w]; rw [d6]) | skip)
   obtain rfl := zm H
   go_wp2
   go_ret
   exact ⟨zE, zW HB.out⟩
  (first | rw [d6] | (simp only [i64_w, i32_w]; rw [d6]) | skip)
  have H' := zA H; clear H
  go_wp2
  go_meet
  case rel => exact ⟨_, (by first | exact H' | (subst_vars; exact H')), ⟨by first | omega | exact Nat.le_refl _⟩, ⟨zK a1.out⟩, ⟨zW HB.out⟩⟩
 case rest =>
  clear e7
  try clear p2
  try clear c3
  try clear c4
  try clear c7
  try clear d6
  try clear g7 g8 g9 h0 h1 h2 h3 h4 h5 h6
  obtain ⟨kq, HA, i9, a1, HB⟩ := hcut
  cases kq with
  | zero => exact absurd HA.out (by simp [laws_FnExactValText.j0])
  | succ d7 =>
   have H := HA.out; clear HA; simp only [laws_FnExactValText.j0] at H; replace H := Option.bind_eq_some_iff.mp H; obtain ⟨⟨e8, e9, f0, e5, d8⟩, h7, H⟩ := H
   try dsimp only at H
   have A8 := zA h7; clear h7; replace H := Option.bind_eq_some_iff.mp H; obtain ⟨j2, h8, H⟩ := H
   try dsimp only at H
   have A9 := zA h8; clear h8; replace H := Option.bind_eq_some_iff.mp H; obtain ⟨⟨a5, b0, b2, a6, a4⟩, h9, H⟩ := H
   try dsimp only at H
   have j3 := zA h9; clear h9; replace H := Option.bind_eq_some_iff.mp H; obtain ⟨j4, i0, H⟩ := H
   try dsimp only at H
   have j5 := zA i0; clear i0; have f1 := zA H; clear H; obtain ⟨j6, j7, j8, j9, k0, k1, k2, k3, k4, k5⟩ := ze5 a1.out
   go_upto_if 21 with (first | ((with_reducible refine zq 6 ?_); refine zg (some 13) Tryd.func6 #[.agg #[.int .i64 a7, .int .i64 a8, .string a9, .slice c1 a2.length c8, .slice c9 a3.length d0]] ?_; (with_reducible refine (laws_toVal.calls d7 a7 a8 a9 _ _ a2 _ _ a3 e8 e9 f0 e5 d8 _ ?s1 ?s2 ?s3 ?s4 A8.out).mono ?_); (case s1 => exact zC (Kd.C_below e1.out HB.out)); (case s2 => exact e2.out); (case s3 => exact zC (Kd.C_below e3.out HB.out)); (case s4 => exact e4.out); rintro e o3 ⟨o4, o5, rfl, d1, b5, hb⟩; refine ⟨_, rfl, ?_⟩; have b6 := zA (Kd.R_lower d1 (below_size (zW HB.out))); have b3 := zA (Kd.R_lower b5 (below_size (zW HB.out))); replace a1 := zb a1 hb; replace HB := zh HB hb; (try clear hb d1 b5); obtain ⟨i1, i2, k6⟩ := Kd.R_slice b6.out; subst k6; obtain ⟨f2, f3, k7⟩ := Kd.R_slice b3.out; subst k7) | ((with_reducible refine zq 5 ?_); refine zg (some 14) Tryd.func5 #[.agg #[.int .i64 e8, .int .i64 e9, .string f0, .slice i1 e5.length i2, .slice f2 d8.length f3]] ?_; (with_reducible refine (spec_ValText.calls d7 e8 e9 f0 _ _ e5 _ _ d8 j2 _ ?s1 ?s2 ?s3 ?s4 A9.out).mono ?_); (case s1 => exact zC (Kd.R_reads' b6.out).2.2); (case s2 => exact (Kd.R_reads' b6.out).2.1); (case s3 => exact zC (Kd.R_reads' b3.out).2.2); (case s4 => exact (Kd.R_reads' b3.out).2.1); rintro e o6 ⟨rfl, hb⟩; refine ⟨_, rfl, ?_⟩; replace b6 := zr b6 hb; replace b3 := zr b3 hb; replace a1 := zb a1 hb; replace HB := zh HB hb; (try clear hb); obtain ⟨k8, k9, l0, l1, l2, l3, l4, l5, l6, l7⟩ := ze5 a1.out) | ((with_reducible refine zq 6 ?_); refine zg (some 16) Tryd.func6 #[.agg #[.int .i64 a7, .int .i64 a8, .string a9, .slice c1 a2.length c8, .slice c9 a3.length d0]] ?_; (with_reducible refine (laws_toVal.calls d7 a7 a8 a9 _ _ a2 _ _ a3 a5 b0 b2 a6 a4 _ ?s1 ?s2 ?s3 ?s4 j3.out).mono ?_); (case s1 => exact zC (Kd.C_below e1.out HB.out)); (case s2 => exact e2.out); (case s3 => exact zC (Kd.C_below e3.out HB.out)); (case s4 => exact e4.out); rintro e o7 ⟨o8, o9, rfl, d1, b5, hb⟩; refine ⟨_, rfl, ?_⟩; have d3 := zA (Kd.R_lower (Kd.R_new' (Kd.R_new' d1 (Kd.R_lt (zR b6.out))) (Kd.R_lt (zR b3.out))) (below_size (zW HB.out))); replace b6 := zA (Kd.R_mono (Kd.R_told (Kd.R_told (Kd.R_old (zR b6.out) hb) (Kd.R_base d1)) (Kd.R_base b5)) (fun _ h_ => h_.1)); have d4 := zA (Kd.R_lower (Kd.R_new' b5 (Kd.R_lt (zR b3.out))) (below_size (zW HB.out))); replace b3 := zA (Kd.R_elder' (zR b3.out) (Kd.R_base b5) hb); replace a1 := zb a1 hb; replace HB := zh HB hb; (try clear hb d1 b5)) | ((with_reducible refine zd 5 ?_); refine ze 5 30 #[.int .i64 0, .int .i64 0, .string (⟨#[]⟩ : ByteArray), .slice none 0 0, .slice none 0 0] ?_; intro a0 hg p0 hbox hb; replace b6 := zA (Kd.R_below (Kd.R_elderB (zR b6.out) a0 (Nat.le_of_eq hg.symm)) hb); replace b3 := zr b3 hb; replace d3 := zA (Kd.R_below (Kd.R_elderB (zR d3.out) a0 (Nat.le_of_eq hg.symm)) hb); replace d4 := zr d4 hb; have b1 := zA (hbox); have p1 := zi HB hg; have p3 := zi HB hg; replace HB := zh HB hb; have l8 := zA (zL hg (zK a1.out)); have l9 := zA (zJ hg (zK a1.out)); replace a1 := zb a1 hb; clear hb hbox hg; have p4 := l9.out; have p5 := l8.out; obtain ⟨m0, m1, m2, m3, m4, m5, m6, m7, m8, m9⟩ := ze5 b1.out; obtain ⟨b9, b7, n0⟩ := Kd.R_slice d3.out; subst n0; obtain ⟨b8, b4, n1⟩ := Kd.R_slice d4.out; subst n1) | ((with_reducible refine zq 7 ?_); refine zg (some 18) Tryd.func7 #[.agg #[.int .i64 a5, .int .i64 b0, .string b2, .slice b9 a6.length b7, .slice b8 a4.length b4]] ?_; (with_reducible refine (impl_ValText.calls d7 a5 b0 b2 _ _ a6 _ _ a4 j4 _ ?s1 ?s2 ?s3 ?s4 ?s5 j5.out).mono ?_); (case s1 => refine (Kd.R_reads' (e := 30) (base := w.heap.size) (ok := fun k_ => (((some k_ ≠ (.slice b8 a4.length b4 : Value).ownBlock ∧ some k_ ≠ (.slice i1 e5.length i2 : Value).ownBlock) ∧ some k_ ≠ (.slice f2 d8.length f3 : Value).ownBlock) ∧ k_ ≠ a0)) (n := a6.length) (c := b7) ?_).2.2; exact (zR (Kd.R_mono (Kd.R_far (p := ⟨a0, 4, none⟩) (Kd.R_far (p := ⟨a0, 3, none⟩) (Kd.R_far (p := ⟨a0, 2, none⟩) (Kd.R_far (p := ⟨a0, 1, none⟩) (Kd.R_far (p := ⟨a0, 0, none⟩) (Kd.R_mono d3.out (fun k_ hk => (⟨hk, hk.2⟩ : _ ∧ k_ ≠ a0))) (fun _ hk => hk.2) (.int .i64 a5)) (fun _ hk => hk.2) (.int .i64 b0)) (fun _ hk => hk.2) (.string b2)) (fun _ hk => hk.2) (.slice b9 a6.length b7)) (fun _ hk => hk.2) (.slice b8 a4.length b4)) (fun _ h_ => h_.1)))); (case s2 => exact (Kd.R_reads' d3.out).2.1); (case s3 => refine (Kd.R_reads' (e := 9) (base := w.heap.size) (ok := fun k_ => (True ∧ some k_ ≠ (.slice f2 d8.length f3 : Value).ownBlock)) (n := a4.length) (c := b4) ?_).2.2; exact (zR (zr5 d4.out b1.out))); (case s4 => exact (Kd.R_reads' d4.out).2.1); (case s5 => exact GW.below HG.out (zW HB.out)); rintro e p6 ⟨rfl, hb⟩; refine ⟨_, rfl, ?_⟩; replace b6 := zA (Kd.R_below (zR (Kd.R_mono (Kd.R_far (p := ⟨a0, 4, none⟩) (Kd.R_far (p := ⟨a0, 3, none⟩) (Kd.R_far (p := ⟨a0, 2, none⟩) (Kd.R_far (p := ⟨a0, 1, none⟩) (Kd.R_far (p := ⟨a0, 0, none⟩) (Kd.R_mono b6.out (fun k_ hk => (⟨hk, hk.2⟩ : _ ∧ k_ ≠ a0))) (fun _ hk => hk.2) (.int .i64 a5)) (fun _ hk => hk.2) (.int .i64 b0)) (fun _ hk => hk.2) (.string b2)) (fun _ hk => hk.2) (.slice b9 a6.length b7)) (fun _ hk => hk.2) (.slice b8 a4.length b4)) (fun _ h_ => h_.1))) hb); replace b3 := zA (Kd.R_below (zR (zr5 b3.out b1.out)) hb); replace d3 := zA (Kd.R_below (zR (Kd.R_mono (Kd.R_far (p := ⟨a0, 4, none⟩) (Kd.R_far (p := ⟨a0, 3, none⟩) (Kd.R_far (p := ⟨a0, 2, none⟩) (Kd.R_far (p := ⟨a0, 1, none⟩) (Kd.R_far (p := ⟨a0, 0, none⟩) (Kd.R_mono d3.out (fun k_ hk => (⟨hk, hk.2⟩ : _ ∧ k_ ≠ a0))) (fun _ hk => hk.2) (.int .i64 a5)) (fun _ hk => hk.2) (.int .i64 b0)) (fun _ hk => hk.2) (.string b2)) (fun _ hk => hk.2) (.slice b9 a6.length b7)) (fun _ hk => hk.2) (.slice b8 a4.length b4)) (fun _ h_ => h_.1))) hb); replace d4 := zA (Kd.R_below (zR (zr5 d4.out b1.out)) hb); replace a1 := zb a1 hb; replace b1 := zA (blk_below (g := a0) (o := .cells #[.int .i64 a5, .int .i64 b0, .string b2, .slice b9 a6.length b7, .slice b8 a4.length b4] 30 (0, 0)) (by (with_reducible repeat (first | refine blk_drewN ?_ _ | refine blk_drew ?_ | refine blk_alloc ?_ _)); refine blk_put (cs := #[.int .i64 a5, .int .i64 b0, .string b2, .slice b9 a6.length b7, .slice none 0 0]) ?_ 4 _ rfl; (with_reducible repeat (first | refine blk_drewN ?_ _ | refine blk_drew ?_ | refine blk_alloc ?_ _)); refine blk_put (cs := #[.int .i64 a5, .int .i64 b0, .string b2, .slice none 0 0, .slice none 0 0]) ?_ 3 _ rfl; (with_reducible repeat (first | refine blk_drewN ?_ _ | refine blk_drew ?_ | refine blk_alloc ?_ _)); refine blk_put (cs := #[.int .i64 a5, .int .i64 b0, .string (⟨#[]⟩ : ByteArray), .slice none 0 0, .slice none 0 0]) ?_ 2 _ rfl; (with_reducible repeat (first | refine blk_drewN ?_ _ | refine blk_drew ?_ | refine blk_alloc ?_ _)); refine blk_put (cs := #[.int .i64 a5, .int .i64 0, .string (⟨#[]⟩ : ByteArray), .slice none 0 0, .slice none 0 0]) ?_ 1 _ rfl; (with_reducible repeat (first | refine blk_drewN ?_ _ | refine blk_drew ?_ | refine blk_alloc ?_ _)); refine blk_put (cs := #[.int .i64 0, .int .i64 0, .string (⟨#[]⟩ : ByteArray), .slice none 0 0, .slice none 0 0]) ?_ 0 _ rfl; (with_reducible repeat (first | refine blk_drewN ?_ _ | refine blk_drew ?_ | refine blk_alloc ?_ _)); exact b1.out) hb); replace HB := zh HB hb; (try clear hb)))
   (try simp only [Act.put, zT])
   go_cut [] (fun wc => ∃ (kq : Nat), Aside0 (laws_FnExactValText.j1 kq a7 a8 a9 a2 a3 a5 b0 b2 a6 a4 = some r) ∧ Aside0 (kq ≤ d7) ∧ Aside0 (Kd.R k30 30 wc w.heap.size (fun k_ => some k_ ≠ ((.slice b8 a4.length b4) : Value).ownBlock ∧ k_ ≠ a0) (.slice b9 a6.length b7) a6) ∧ Aside0 (Kd.R Kd.string 9 wc w.heap.size (fun _ => True) (.slice b8 a4.length b4) a4) ∧ Aside0 (wc.heap[d5]? = some (.cells #[.int .i64 a7, .int .i64 a8, .string a9, (.slice c1 a2.length c8), (.slice c9 a3.length d0)] 25 (0, 0))) ∧ Aside0 (wc.heap[a0]? = some (.cells #[.int .i64 a5, .int .i64 b0, .string b2, (.slice b9 a6.length b7), (.slice b8 a4.length b4)] 30 (0, 0))) ∧ Aside0 (Below w.heap.size w wc))
   case first =>
    have H := f1.out; clear f1; replace H := zC0 H; obtain ⟨e6, H⟩ := H; have f4 := beq_iff_eq.mpr e6; have n2 := bne_eq_false_iff_eq.mpr e6; clear e6
    (first | rw [f4] | (simp only [i64_w, i32_w]; rw [f4]) | skip)
    have H' := zA H; clear H
    go_wp2
    go_meet
    case rel => exact ⟨_, (by first | exact H' | (subst_vars; exact H')), ⟨by have := i9.out; first | omega | exact Nat.le_refl _⟩, ⟨zR (Kd.R_mono d3.out (fun _ hk => ⟨hk.1.1.1, hk.2⟩))⟩, ⟨zR (Kd.R_mono d4.out (fun _ hk => trivial))⟩, ⟨zK a1.out⟩, ⟨zK b1.out⟩, ⟨zW HB.out⟩⟩
   case rest =>
    clear f1
    try clear c2
    try clear p2
    try clear c3
    try clear c4
    try clear c5
    try clear c6
    try clear c7
    try clear d6
    try clear c21
    try clear e6
    try clear f4
    try clear n2
    try clear j6 j7 j8 j9 k0 k1 k2 k3 k4 k5
    try clear k8 k9 l0 l1 l2 l3 l4 l5 l6 l7
    try clear m0 m1 m2 m3 m4 m5 m6 m7 m8 m9
    try clear g7 g8 g9 h0 h1 h2 h3 h4 h5 h6
    try clear p2
    obtain ⟨kq, HA, p7, d2, c0, a1, b1, HB⟩ := hcut
    cases kq with
    | zero => exact absurd HA.out (by simp [laws_FnExactValText.j1])
    | succ i3 =>
     have H := HA.out; clear HA; simp only [laws_FnExactValText.j1] at H; replace H := Option.bind_eq_some_iff.mp H; obtain ⟨⟨f5, f6, f7, f8, f9⟩, i4, H⟩ := H
     try dsimp only at H
     have n3 := zA i4; clear i4; replace H := Option.bind_eq_some_iff.mp H; obtain ⟨p8, i5, H⟩ := H
     try dsimp only at H
     have n4 := zA i5; clear i5; replace H := zB0 H
     rcases H with ⟨rfl, H⟩ | ⟨rfl, H⟩
     ·obtain rfl := zm H
      try go_wp2
      replace d2 := zA (Kd.R_drew d2.out); replace c0 := zA (Kd.R_drew c0.out); replace a1 := zA (blk_drew a1.out); replace b1 := zA (blk_drew b1.out); replace HB := zA (below_drew1 HB.out)
      refine start_ (n := 5) (S := fun w' => w'.cell? ⟨a0, 0, none⟩ = some (.int .i64 a5) ∧ w'.cell? ⟨a0, 1, none⟩ = some (.int .i64 b0) ∧ w'.cell? ⟨a0, 2, none⟩ = some (.string b2) ∧ w'.cell? ⟨a0, 3, none⟩ = some (.slice b9 a6.length b7) ∧ w'.cell? ⟨a0, 4, none⟩ = some (.slice b8 a4.length b4) ∧ w'.cell? ⟨d5, 0, none⟩ = some (.int .i64 a7) ∧ w'.cell? ⟨d5, 1, none⟩ = some (.int .i64 a8) ∧ w'.cell? ⟨d5, 2, none⟩ = some (.string a9) ∧ w'.cell? ⟨d5, 3, none⟩ = some (.slice c1 a2.length c8) ∧ w'.cell? ⟨d5, 4, none⟩ = some (.slice c9 a3.length d0)) (ds := []) (Array.replicate 5 false) (by kernel_rfl) rfl rfl zO fun hHeld => ?_
      generalize wc.drew = p9 at d2 c0 a1 b1 HB hHeld ⊢; refine zt 0 22 ?_; refine zt 1 23 ?_
      refine zo 2 (some 24) fun K hK => ?_
      refine goes_ Tryd.func6 (by kernel_rfl) rfl #[.agg #[.int .i64 a7, .int .i64 a8, .string a9, .slice c1 a2.length c8, .slice c9 a3.length d0]] (by rfl) rfl rfl zM ?_
      with_reducible refine (laws_toVal.calls i3 a7 a8 a9 _ _ a2 _ _ a3 f5 f6 f7 f8 f9 _ ?s1 ?s2 ?s3 ?s4 n3.out).mono ?_
      (case s1 => exact zC (Kd.C_below e1.out HB.out))
      (case s2 => exact e2.out)
      (case s3 => exact zC (Kd.C_below e3.out HB.out))
      (case s4 => exact e4.out)
      rintro e q0 ⟨q1, q2, rfl, d1, b5, hb⟩
      refine ⟨_, rfl, ?_⟩
      have d9 := zA (Kd.R_lower (Kd.R_newB (Kd.R_new' (Kd.R_new' d1 (Kd.R_lt (zR d2.out))) (Kd.R_lt (zR c0.out))) (g := a0) (o := .cells #[.int .i64 a5, .int .i64 b0, .string b2, .slice b9 a6.length b7, .slice b8 a4.length b4] 30 (0, 0)) (zK b1.out)) (below_size (zW HB.out))); replace d2 := zA (Kd.R_mono (Kd.R_told (Kd.R_told (Kd.R_old (zR d2.out) hb) (Kd.R_base d1)) (Kd.R_base b5)) (fun _ h_ => h_.1)); have e0 := zA (Kd.R_lower (Kd.R_new' b5 (Kd.R_lt (zR c0.out))) (below_size (zW HB.out))); replace c0 := zA (Kd.R_elder' (zR c0.out) (Kd.R_base b5) hb); replace a1 := zb a1 hb; replace b1 := zb b1 hb; replace HB := zh HB hb
      (try clear hb d1 b5)
      obtain ⟨n5, n6, i6⟩ := Kd.R_slice d9.out
      (first | subst i6 | (injection i6 with f1_ f2_ f3_; have g0 := f1_.symm; have g1 := f3_.symm; clear f1_ f2_ f3_; subst g0; subst g1))
      obtain ⟨n7, n8, i7⟩ := Kd.R_slice e0.out
      (first | subst i7 | (injection i7 with f1_ f2_ f3_; have g0 := f1_.symm; have g1 := f3_.symm; clear f1_ f2_ f3_; subst g0; subst g1))
      refine hK.out _ _ zO fun hHeld => ?_
      clear hK K; refine zn ?_
      refine zo 3 (some 25) fun K hK => ?_
      refine goes_ Tryd.func8 (by kernel_rfl) rfl #[.agg #[.int .i64 a5, .int .i64 b0, .string b2, .slice b9 a6.length b7, .slice b8 a4.length b4], .agg #[.int .i64 f5, .int .i64 f6, .string f7, .slice n5 f8.length n6, .slice n7 f9.length n8]] (by rfl) rfl rfl zM ?_
      with_reducible refine (laws_eqVal.calls i3 a5 b0 b2 _ _ a6 _ _ a4 f5 f6 f7 _ _ f8 _ _ f9 true _ ?s1 ?s2 ?s3 ?s4 ?s5 ?s6 ?s7 ?s8 n4.out).mono ?_
      (case s1 => exact zC (Kd.R_reads' d2.out).2.2)
      (case s2 => exact (Kd.R_reads' d2.out).2.1)
      (case s3 => exact zC (Kd.R_reads' c0.out).2.2)
      (case s4 => exact (Kd.R_reads' c0.out).2.1)
      (case s5 => exact zC (Kd.R_reads' d9.out).2.2)
      (case s6 => exact (Kd.R_reads' d9.out).2.1)
      (case s7 => exact zC (Kd.R_reads' e0.out).2.2)
      (case s8 => exact (Kd.R_reads' e0.out).2.1)
      rintro e q3 ⟨rfl, hb⟩
      refine ⟨_, rfl, ?_⟩
      replace d2 := zr d2 hb; replace c0 := zr c0 hb; replace d9 := zr d9 hb; replace e0 := zr e0 hb; replace a1 := zb a1 hb; replace b1 := zb b1 hb; replace HB := zh HB hb
      (try clear hb)
      refine hK.out _ _ zO fun hHeld => ?_
      clear hK K; refine zn ?_; refine zp 4 26 ?_
      refine done_ (by kernel_rfl) ?_
      try go_wp2
      go_ret
      exact ⟨zE, zW HB.out⟩
     exact absurd H (by simp)
end Go.Proofs.YtglhniiabhknoaaDoor.PGA
