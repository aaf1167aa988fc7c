/- The walks of the functions that these laws reach, and what each comes to: printed by this session's program. -/
import Derived.Test.YtglhniiabhknoaaZGAPGAx0
import Derived.Test.YtglhniiabhknoaaZGASays
import Derived.Test.YtglhniiabhknoaaZGARegs
namespace Go.Proofs.Ytglhniiabhknoaa.PGA
open Go.RowKit YtglhniiabhknoaaW.PrintWords YtglhniiabhknoaaW.PrintLast YtglhniiabhknoaaW.PrintMore
attribute [local go_sem high] Mine.str_gtr Mine.str_leq Mine.str_geq
attribute [local go_sem] max2_int min2_int max_two min_two max_three min_three max_four min_four   -- for this text's walks alone
set_option linter.unusedVariables false
set_option maxHeartbeats 8000000
set_option maxRecDepth 100000
set_option linter.unusedSimpArgs false
/-! ### laws_szStringS: function 27 -/
mutual
def laws_szStringS.j0 : Nat → List ByteArray → Int → Option (Int)
 | 0, _, _ => none
 | k + 1, x0, x1 => laws_szStringS.l0 k x0 x1 0
def laws_szStringS.l0 : Nat → List ByteArray → Int → Int → Option (Int)
 | 0, _, _, _ => none
 | k + 1, x0, x1, x5 => if x5 < (x0.length : Int) then (if 0 ≤ x5 then (if (wrap64 (x1 - ((rdOf ByteArray.empty x0 x5).size : Int))) < 0 then (some (-1)) else (laws_szStringS.l0 k x0 (wrap64 (x1 - ((rdOf ByteArray.empty x0 x5).size : Int))) (wrap64 (x5 + 1)))) else (none)) else (some x1)
end
def laws_szStringS.f (k : Nat) (l0 : List ByteArray) (a1 : Int) : Option (Int) := if (wrap64 (a1 - (l0.length : Int))) < 0 then (some (-1)) else (laws_szStringS.j0 k l0 (wrap64 (a1 - (l0.length : Int))))
theorem laws_szStringS.calls (k : Nat) (A0 : Option Addr) (c0 : Nat) (l0 : List ByteArray) (a1 r : Int) (w : World) (a8 : Kd.C Kd.string w A0 l0.length l0) (a9 : l0.length ≤ c0) (h : laws_szStringS.f k l0 a1 = some r) :
  Calls Try.prog 27 #[.slice A0 l0.length c0, .int .i64 a1] w fun e w' => e = .returned (.int .i64 r) ∧ Drawn0 w w' := by
 have b0 := zA a8
 have b8 := zA a9
 clear a8 a9
 unfold laws_szStringS.f at h
 have H := h
 clear h
 have a6 := zA H
 clear H
 go_enter Try.func27, Try.ntmps27
 go_upto_if 11 with (fail)
 go_cut [] (fun wc => ∃ (kq : Nat), Aside0 (laws_szStringS.j0 kq l0 (wrap64 (a1 - (l0.length : Int))) = some r) ∧ Aside0 (kq ≤ k) ∧ Drawn0 w wc)
 case first =>
  have H := a6.out; clear a6; replace H := zI0 H
  rcases H with ⟨a2, H⟩ | ⟨a2, H⟩
  ·(first | rw [a2] | (simp only [i64_w, i32_w]; rw [a2]) | skip)
   obtain rfl := zm H
   go_wp2
   go_ret
   exact ⟨by first | rfl | (simp; done) | (simp [*]; done) | (simp; rw [Bool.eq_iff_iff]; simp; done), zv0⟩
  (first | rw [a2] | (simp only [i64_w, i32_w]; rw [a2]) | skip)
  have H' := zA H; clear H
  go_wp2
  go_meet
  case rel => exact ⟨_, (by first | exact H' | (subst_vars; exact H')), ⟨by first | omega | exact Nat.le_refl _⟩, zv0⟩
 case rest =>
  clear a6
  try clear c2
  try clear p2
  try clear c4
  try clear a2
  obtain ⟨kq, HA, b1, ⟨b9, rfl⟩⟩ := hcut
  cases kq with
  | zero => exact absurd HA.out (by simp [laws_szStringS.j0])
  | succ b2 =>
   have H := HA.out; clear HA; simp only [laws_szStringS.j0] at H; have H' := zA H; clear H
   go_wp2
   go_loopg [1, 5] b2 (fun kq v1 v5 w' => ∃ (a5 : Int) (a0 : Int), v1 = .int .i64 a5 ∧ v5 = .int .i64 a0 ∧ Aside0 (laws_szStringS.l0 kq l0 a5 a0 = some r) ∧ Aside0 (kq ≤ b2) ∧ Drawn0 w w')
   case atStart => exact ⟨((wrap64 (a1 - (l0.length : Int)))), (0), zS, zS, H', ⟨Nat.le_refl _⟩, zv0⟩
   case round =>
    clear H'
    try clear c2
    try clear p2
    try clear c4
    try clear a2
    try clear p2
    obtain ⟨a5, a0, rfl, rfl, HA, b3, ⟨m2, rfl⟩⟩ := hrel
    cases gk with
    | zero => exact absurd HA.out (by simp [laws_szStringS.l0])
    | succ k2 =>
     have H := HA.out; clear HA; simp only [laws_szStringS.l0] at H; replace H := zI0 H
     rcases H with ⟨b4, H⟩ | ⟨b4, H⟩
     ·replace H := zD0 H; obtain ⟨c1, H⟩ := H; replace H := zI0 H
      rcases H with ⟨b5, H⟩ | ⟨b5, H⟩
      ·obtain rfl := zm H; have a3 : 0 ≤ (a0 : Int) := zD; have a4 : a0 < (l0.length : Int) := zD; obtain ⟨b6, a7, b7⟩ := Kd.at_string b0.out a0 a3 a4; cases a7; replace a3 := eq_true a3; replace a4 := eq_true a4
       go_wp2
       go_ret
       exact ⟨by first | rfl | (simp; done) | (simp [*]; done) | (simp; rw [Bool.eq_iff_iff]; simp; done), zv0⟩
      have H' := zA H; clear H; have a3 : 0 ≤ (a0 : Int) := zD; have a4 : a0 < (l0.length : Int) := zD; obtain ⟨b6, a7, b7⟩ := Kd.at_string b0.out a0 a3 a4; cases a7; replace a3 := eq_true a3; replace a4 := eq_true a4
      go_wp2
      go_roundg k2
      case measure => have := b1.out; have := b3.out; omega
      case rel => exact ⟨(wrap64 (a5 - ((rdOf ByteArray.empty l0 a0).size : Int))), (wrap64 (a0 + 1)), zS, zS, H', ⟨by have := b1.out; have := b3.out; omega⟩, zv0⟩
     obtain rfl := zm H
     go_wp2
     go_ret
     exact ⟨by first | rfl | (simp; done) | (simp [*]; done) | (simp; rw [Bool.eq_iff_iff]; simp; done), zv0⟩
class laws_szVal.Rec where
 f : Nat → Int → Int → ByteArray → List (S25) → List ByteArray → Int → Option (Int)
class laws_szVal.Rec.Ok [laws_szVal.Rec] : Prop where
 calls : ∀ (k : Nat) (a3 : Int) (a4 : Int) (a5 : ByteArray) (a6 : Option Addr) (a7 : Nat) (a0 : List (S25)) (a8 : Option Addr) (a9 : Nat) (a2 : List ByteArray) (a1 : Int) (r : Int) (w : World) (b0 : Kd.C k25 w a6 a0.length a0) (b1 : a0.length ≤ a7) (b2 : Kd.C Kd.string w a8 a2.length a2) (b3 : a2.length ≤ a9) (h : laws_szVal.Rec.f k a3 a4 a5 a0 a2 a1 = some r),
  Calls Try.prog 6 #[.agg #[.int .i64 a3, .int .i64 a4, .string a5, .slice a6 a0.length a7, .slice a8 a2.length a9], .int .i64 a1] w fun e w' => e = .returned (.int .i64 r) ∧ Below w.heap.size w w'
theorem laws_szVal.Rec.calls [laws_szVal.Rec] [o : laws_szVal.Rec.Ok] : ∀ (k : Nat) (a3 a4 : Int) (a5 : ByteArray) (a6 : Option Addr) (a7 : Nat) (a0 : List (S25)) (a8 : Option Addr) (a9 : Nat) (a2 : List ByteArray) (a1 r : Int) (w : World) (b0 : Kd.C k25 w a6 a0.length a0) (b1 : a0.length ≤ a7) (b2 : Kd.C Kd.string w a8 a2.length a2) (b3 : a2.length ≤ a9) (h : laws_szVal.Rec.f k a3 a4 a5 a0 a2 a1 = some r),
  Calls Try.prog 6 #[.agg #[.int .i64 a3, .int .i64 a4, .string a5, .slice a6 a0.length a7, .slice a8 a2.length a9], .int .i64 a1] w fun e w' => e = .returned (.int .i64 r) ∧ Below w.heap.size w w' := o.calls
section
set_option linter.unusedSectionVars false
variable [laws_szVal.Rec] [laws_szVal.Rec.Ok]
/-! ### laws_szValS: function 26 -/
mutual
def laws_szValS.j0 : Nat → List (S25) → Int → Option (Int)
 | 0, _, _ => none
 | k + 1, x0, x1 => laws_szValS.l0 k x0 x1 0
def laws_szValS.l0 : Nat → List (S25) → Int → Int → Option (Int)
 | 0, _, _, _ => none
 | k + 1, x0, x1, x5 => if x5 < (x0.length : Int) then (if 0 ≤ x5 then ((laws_szVal.Rec.f k ((rd_T25 x0 x5).f0) ((rd_T25 x0 x5).f1) ((rd_T25 x0 x5).f2) ((rd_T25 x0 x5).f3) ((rd_T25 x0 x5).f4) x1).bind fun a0 => (if a0 < 0 then (some (-1)) else (laws_szValS.l0 k x0 a0 (wrap64 (x5 + 1))))) else (none)) else (some x1)
end
def laws_szValS.f (k : Nat) (l0 : List (S25)) (a1 : Int) : Option (Int) := if (wrap64 (a1 - (l0.length : Int))) < 0 then (some (-1)) else (laws_szValS.j0 k l0 (wrap64 (a1 - (l0.length : Int))))
theorem laws_szValS.calls (k : Nat) (A0 : Option Addr) (c0 : Nat) (l0 : List (S25)) (a1 r : Int) (w : World) (c9 : Kd.C k25 w A0 l0.length l0) (d0 : l0.length ≤ c0) (h : laws_szValS.f k l0 a1 = some r) :
  Calls Try.prog 26 #[.slice A0 l0.length c0, .int .i64 a1] w fun e w' => e = .returned (.int .i64 r) ∧ Below w.heap.size w w' := by
 have d9 := Try.underlying25
 have d1 := zA c9
 have e0 := zA d0
 clear c9 d0
 have HB := zA (Below.refl w.heap.size w)
 unfold laws_szValS.f at h
 have H := h
 clear h
 have b5 := zA H
 clear H
 go_enter Try.func26, Try.ntmps26
 go_upto_if 11 with (fail)
 go_cut [] (fun wc => ∃ (kq : Nat), Aside0 (laws_szValS.j0 kq l0 (wrap64 (a1 - (l0.length : Int))) = some r) ∧ Aside0 (kq ≤ k) ∧ Aside0 (Below w.heap.size w wc))
 case first =>
  have H := b5.out; clear b5; replace H := zI0 H
  rcases H with ⟨a2, H⟩ | ⟨a2, H⟩
  ·(first | rw [a2] | (simp only [i64_w, i32_w]; rw [a2]) | skip)
   obtain rfl := zm H
   go_wp2
   go_ret
   exact ⟨zE, zB⟩
  (first | rw [a2] | (simp only [i64_w, i32_w]; rw [a2]) | skip)
  have H' := zA H; clear H
  go_wp2
  go_meet
  case rel => exact ⟨_, (by first | exact H' | (subst_vars; exact H')), ⟨by first | omega | exact Nat.le_refl _⟩, ⟨zB⟩⟩
 case rest =>
  clear b5
  try clear c2
  try clear p2
  try clear c4
  try clear a2
  obtain ⟨kq, HA, d2, HB⟩ := hcut
  cases kq with
  | zero => exact absurd HA.out (by simp [laws_szValS.j0])
  | succ d3 =>
   have H := HA.out; clear HA; simp only [laws_szValS.j0] at H; have H' := zA H; clear H
   go_wp2
   go_loopg [1, 5] d3 (fun kq v1 v5 w' => ∃ (a3 : Int) (a0 : Int), v1 = .int .i64 a3 ∧ v5 = .int .i64 a0 ∧ Aside0 (laws_szValS.l0 kq l0 a3 a0 = some r) ∧ Aside0 (kq ≤ d3) ∧ Aside0 (Below w.heap.size w w'))
   case atStart => exact ⟨((wrap64 (a1 - (l0.length : Int)))), (0), zS, zS, H', ⟨Nat.le_refl _⟩, ⟨zB⟩⟩
   case round =>
    clear H'
    try clear c2
    try clear p2
    try clear c4
    try clear a2
    try clear p2
    obtain ⟨a3, a0, rfl, rfl, HA, d4, HB⟩ := hrel
    cases gk with
    | zero => exact absurd HA.out (by simp [laws_szValS.l0])
    | succ k2 =>
     have H := HA.out; clear HA; simp only [laws_szValS.l0] at H; replace H := zI0 H
     rcases H with ⟨d6, H⟩ | ⟨d6, H⟩
     ·replace H := zD0 H; obtain ⟨e1, H⟩ := H; replace H := Option.bind_eq_some_iff.mp H; obtain ⟨b6, d5, H⟩ := H
      try dsimp only at H
      have A7 := zA d5; clear d5; replace H := zI0 H
      rcases H with ⟨d7, H⟩ | ⟨d7, H⟩
      ·obtain rfl := zm H; have a4 : 0 ≤ (a0 : Int) := zD; have a5 : a0 < (l0.length : Int) := zD; obtain ⟨d8, b7, b8, b9, c1, c3, a6, a7, a8, a9, b0, b1, b2, b3, b4⟩ := at_T25 d1.out a0 a4 a5; cases c3; replace a6 := zx HB a6; replace a7 := zx HB a7; replace a8 := zx HB a8; replace a9 := zx HB a9; replace b0 := zx HB b0; have c5 := zA b2; have c6 := zA b1; clear b2 b1; have c7 := zA b4; have c8 := zA b3; clear b4 b3; replace a4 := eq_true a4; replace a5 := eq_true a5
       go_wp2_with (first | ((with_reducible refine zq 6 ?_); refine zg (some 23) Try.func6 #[.agg #[.int .i64 ((rd_T25 l0 a0).f0), .int .i64 ((rd_T25 l0 a0).f1), .string ((rd_T25 l0 a0).f2), .slice b7 ((rd_T25 l0 a0).f3).length b8, .slice b9 ((rd_T25 l0 a0).f4).length c1], .int .i64 a3] ?_; (with_reducible refine (laws_szVal.Rec.calls k2 ((rd_T25 l0 a0).f0) ((rd_T25 l0 a0).f1) ((rd_T25 l0 a0).f2) _ _ ((rd_T25 l0 a0).f3) _ _ ((rd_T25 l0 a0).f4) a3 b6 _ ?s1 ?s2 ?s3 ?s4 A7.out).mono ?_); (case s1 => exact zC (Kd.C_below c5.out HB.out)); (case s2 => exact c6.out); (case s3 => exact zC (Kd.C_below c7.out HB.out)); (case s4 => exact c8.out); rintro e w9 ⟨rfl, hb⟩; refine ⟨_, rfl, ?_⟩; replace HB := zA (below_step (zB) hb); (try clear hb)))
       go_ret
       exact ⟨zE, zB⟩
      have H' := zA H; clear H; have a4 : 0 ≤ (a0 : Int) := zD; have a5 : a0 < (l0.length : Int) := zD; obtain ⟨d8, b7, b8, b9, c1, c3, a6, a7, a8, a9, b0, b1, b2, b3, b4⟩ := at_T25 d1.out a0 a4 a5; cases c3; replace a6 := zx HB a6; replace a7 := zx HB a7; replace a8 := zx HB a8; replace a9 := zx HB a9; replace b0 := zx HB b0; have c5 := zA b2; have c6 := zA b1; clear b2 b1; have c7 := zA b4; have c8 := zA b3; clear b4 b3; replace a4 := eq_true a4; replace a5 := eq_true a5
      go_wp2_with (first | ((with_reducible refine zq 6 ?_); refine zg (some 23) Try.func6 #[.agg #[.int .i64 ((rd_T25 l0 a0).f0), .int .i64 ((rd_T25 l0 a0).f1), .string ((rd_T25 l0 a0).f2), .slice b7 ((rd_T25 l0 a0).f3).length b8, .slice b9 ((rd_T25 l0 a0).f4).length c1], .int .i64 a3] ?_; (with_reducible refine (laws_szVal.Rec.calls k2 ((rd_T25 l0 a0).f0) ((rd_T25 l0 a0).f1) ((rd_T25 l0 a0).f2) _ _ ((rd_T25 l0 a0).f3) _ _ ((rd_T25 l0 a0).f4) a3 b6 _ ?s1 ?s2 ?s3 ?s4 A7.out).mono ?_); (case s1 => exact zC (Kd.C_below c5.out HB.out)); (case s2 => exact c6.out); (case s3 => exact zC (Kd.C_below c7.out HB.out)); (case s4 => exact c8.out); rintro e e2 ⟨rfl, hb⟩; refine ⟨_, rfl, ?_⟩; replace HB := zA (below_step (zB) hb); (try clear hb)))
      go_roundg k2
      case measure => have := d2.out; have := d4.out; omega
      case rel => exact ⟨(b6), (wrap64 (a0 + 1)), zS, zS, H', ⟨by have := d2.out; have := d4.out; omega⟩, ⟨zB⟩⟩
     obtain rfl := zm H
     go_wp2
     go_ret
     exact ⟨zE, zB⟩
end
/-! ### laws_szVal: function 6 -/
mutual
def laws_szVal.j0 : Nat → Int → Int → Int → ByteArray → List (S25) → List ByteArray → Option (Int)
 | 0, _, _, _, _, _, _ => none
 | k + 1, x1, b0, b1, b2, a4, a5 => (@laws_szValS.f ⟨fun _ => laws_szVal.f k⟩ k a4 x1).bind fun a2 => (if a2 < 0 then (some (-1)) else ((laws_szStringS.f k a5 a2).bind fun a3 => (if a3 < 0 then (some (-1)) else (some a3))))
def laws_szVal.f : Nat → Int → Int → ByteArray → List (S25) → List ByteArray → Int → Option (Int)
 | 0, _, _, _, _, _, _ => none
 | k + 1, a6, a7, a0, a8, a9, a1 => if (wrap64 (a1 - (a0.size : Int))) < 0 then (some (-1)) else (laws_szVal.j0 k (wrap64 (a1 - (a0.size : Int))) a6 a7 a0 a8 a9)
end
theorem laws_szVal.calls (k : Nat) : ∀ (b1 b2 : Int) (a4 : ByteArray) (a6 : Option Addr) (a7 : Nat) (a0 : List (S25)) (a8 : Option Addr) (a9 : Nat) (a5 : List ByteArray) (a1 r : Int) (w : World) (b4 : Kd.C k25 w a6 a0.length a0) (b5 : a0.length ≤ a7) (b6 : Kd.C Kd.string w a8 a5.length a5) (b7 : a5.length ≤ a9) (h : laws_szVal.f k b1 b2 a4 a0 a5 a1 = some r),
  Calls Try.prog 6 #[.agg #[.int .i64 b1, .int .i64 b2, .string a4, .slice a6 a0.length a7, .slice a8 a5.length a9], .int .i64 a1] w fun e w' => e = .returned (.int .i64 r) ∧ Below w.heap.size w w' := by
 induction k using Nat.strongRecOn with
 | _ k ih =>
 intro b1 b2 a4 a6 a7 a0 a8 a9 a5 a1 r w b4 b5 b6 b7 h
 cases k with
 | zero => exact absurd h (by simp [laws_szVal.f])
 | succ k =>
 simp only [laws_szVal.f] at h
 have e2 := Try.underlying25
 have b8 := zA b4
 have b9 := zA b5
 clear b4 b5
 have c2 := zA b6
 have c3 := zA b7
 clear b6 b7
 have HB := zA (Below.refl w.heap.size w)
 have H := h
 clear h
 have c0 := zA H
 clear H
 go_enter Try.func6, Try.ntmps6
 go_upto_if 11 with (first | ((with_reducible refine zd 2 ?_); refine ze 2 25 #[.int .i64 b1, .int .i64 b2, .string a4, .slice a6 a0.length a7, .slice a8 a5.length a9] ?_; intro c9 hg w4 hbox hb; have a2 := zA (hbox); have e3 := zi HB hg; have e4 := zi HB hg; replace HB := zA (below_step (zB) hb); clear hb hbox hg; obtain ⟨d0, d1, d2, d3, d4, d5, d6, d7, d8, d9⟩ := ze5 a2.out))
 (try simp only [Act.put, zT])
 go_cut [] (fun wc => ∃ (kq : Nat), Aside0 (laws_szVal.j0 kq (wrap64 (a1 - (a4.size : Int))) b1 b2 a4 a0 a5 = some r) ∧ Aside0 (kq ≤ k) ∧ Aside0 (wc.heap[c9]? = some (.cells #[.int .i64 b1, .int .i64 b2, .string a4, (.slice a6 a0.length a7), (.slice a8 a5.length a9)] 25 (0, 0))) ∧ Aside0 (Below w.heap.size w wc))
 case first =>
  have H := c0.out; clear c0; replace H := zI0 H
  rcases H with ⟨b3, H⟩ | ⟨b3, H⟩
  ·(first | rw [b3] | (simp only [i64_w, i32_w]; rw [b3]) | skip)
   obtain rfl := zm H
   go_wp2
   go_ret
   exact ⟨zE, zW HB.out⟩
  (first | rw [b3] | (simp only [i64_w, i32_w]; rw [b3]) | skip)
  have H' := zA H; clear H
  go_wp2
  go_meet
  case rel => exact ⟨_, (by first | exact H' | (subst_vars; exact H')), ⟨by first | omega | exact Nat.le_refl _⟩, ⟨zK a2.out⟩, ⟨zW HB.out⟩⟩
 case rest =>
  clear c0
  try clear p2
  try clear c6
  try clear b3
  try clear p6
  try clear d0 d1 d2 d3 d4 d5 d6 d7 d8 d9
  obtain ⟨kq, HA, c1, a2, HB⟩ := hcut
  cases kq with
  | zero => exact absurd HA.out (by simp [laws_szVal.j0])
  | succ a3 =>
   have H := HA.out; clear HA; simp only [laws_szVal.j0] at H; replace H := Option.bind_eq_some_iff.mp H; obtain ⟨b0, c4, H⟩ := H
   try dsimp only at H
   have A7 := zA c4; clear c4; replace H := zI0 H
   rcases H with ⟨e0, H⟩ | ⟨e0, H⟩
   ·obtain rfl := zm H; obtain ⟨e5, e6, e7, e8, e9, f0, f1, f2, f3, f4⟩ := ze5 a2.out
    go_wp2_with (first | ((with_reducible refine zq 26 ?_); refine zg (some 15) Try.func26 #[.slice a6 a0.length a7, .int .i64 (wrap64 (a1 - (a4.size : Int)))] ?_; (refine (@laws_szValS.calls ⟨fun _ => laws_szVal.f a3⟩ (@laws_szVal.Rec.Ok.mk ⟨fun _ => laws_szVal.f a3⟩ (fun _ => ih a3 (by have := c1.out; omega))) a3 _ _ a0 (wrap64 (a1 - (a4.size : Int))) b0 _ ?s1 ?s2 A7.out).mono ?_); (case s1 => exact zC (Kd.C_below b8.out HB.out)); (case s2 => exact b9.out); rintro e f5 ⟨rfl, hb⟩; refine ⟨_, rfl, ?_⟩; replace a2 := zb a2 hb; replace HB := zh HB hb; (try clear hb)))
    go_ret
    exact ⟨zE, zW HB.out⟩
   replace H := Option.bind_eq_some_iff.mp H; obtain ⟨c5, c7, H⟩ := H
   try dsimp only at H
   have c8 := zA c7; clear c7; replace H := zI0 H
   rcases H with ⟨e1, H⟩ | ⟨e1, H⟩
   ·obtain rfl := zm H; obtain ⟨f6, f7, f8, f9, g0, g1, g2, g3, g4, g5⟩ := ze5 a2.out
    go_wp2_with (first | ((with_reducible refine zq 26 ?_); refine zg (some 15) Try.func26 #[.slice a6 a0.length a7, .int .i64 (wrap64 (a1 - (a4.size : Int)))] ?_; (refine (@laws_szValS.calls ⟨fun _ => laws_szVal.f a3⟩ (@laws_szVal.Rec.Ok.mk ⟨fun _ => laws_szVal.f a3⟩ (fun _ => ih a3 (by have := c1.out; omega))) a3 _ _ a0 (wrap64 (a1 - (a4.size : Int))) b0 _ ?s1 ?s2 A7.out).mono ?_); (case s1 => exact zC (Kd.C_below b8.out HB.out)); (case s2 => exact b9.out); rintro e g6 ⟨rfl, hb⟩; refine ⟨_, rfl, ?_⟩; replace a2 := zb a2 hb; replace HB := zh HB hb; (try clear hb); obtain ⟨g7, g8, g9, h0, h1, h2, h3, h4, h5, h6⟩ := ze5 a2.out) | ((with_reducible refine zq 27 ?_); refine zg (some 21) Try.func27 #[.slice a8 a5.length a9, .int .i64 b0] ?_; (with_reducible refine (laws_szStringS.calls a3 _ _ a5 b0 c5 _ ?s1 ?s2 c8.out).mono ?_); (case s1 => exact zC (Kd.C_below c2.out HB.out)); (case s2 => exact c3.out); rintro e w' ⟨rfl, ⟨nd, rfl⟩⟩; refine ⟨_, rfl, ?_⟩))
    go_ret
    exact ⟨zE, zW HB.out⟩
   obtain rfl := zm H; obtain ⟨h7, h8, h9, i0, i1, i2, i3, i4, i5, i6⟩ := ze5 a2.out
   go_wp2_with (first | ((with_reducible refine zq 26 ?_); refine zg (some 15) Try.func26 #[.slice a6 a0.length a7, .int .i64 (wrap64 (a1 - (a4.size : Int)))] ?_; (refine (@laws_szValS.calls ⟨fun _ => laws_szVal.f a3⟩ (@laws_szVal.Rec.Ok.mk ⟨fun _ => laws_szVal.f a3⟩ (fun _ => ih a3 (by have := c1.out; omega))) a3 _ _ a0 (wrap64 (a1 - (a4.size : Int))) b0 _ ?s1 ?s2 A7.out).mono ?_); (case s1 => exact zC (Kd.C_below b8.out HB.out)); (case s2 => exact b9.out); rintro e i7 ⟨rfl, hb⟩; refine ⟨_, rfl, ?_⟩; replace a2 := zb a2 hb; replace HB := zh HB hb; (try clear hb); obtain ⟨i8, i9, j1, j2, j3, j4, j5, j6, j7, j8⟩ := ze5 a2.out) | ((with_reducible refine zq 27 ?_); refine zg (some 21) Try.func27 #[.slice a8 a5.length a9, .int .i64 b0] ?_; (with_reducible refine (laws_szStringS.calls a3 _ _ a5 b0 c5 _ ?s1 ?s2 c8.out).mono ?_); (case s1 => exact zC (Kd.C_below c2.out HB.out)); (case s2 => exact c3.out); rintro e w' ⟨rfl, ⟨nd, rfl⟩⟩; refine ⟨_, rfl, ?_⟩))
   go_ret
   exact ⟨zE, zW HB.out⟩
/-! ### spec_l2Copy: function 28 -/
mutual
def spec_l2Copy.l0 : Nat → Int → Int → Int → ByteArray → List (S29) → List ByteArray → Int → Int → ByteArray → List (S29) → List ByteArray → Option (Int × Int × ByteArray × (List (S29)) × List ByteArray)
 | 0, _, _, _, _, _, _, _, _, _, _, _ => none
 | k + 1, x4, b2, b3, b4, a0, b5, a4, a5, a6, a2, a7 => if x4 < (a0.length : Int) then (if 0 ≤ x4 then ((spec_l2Copy.f k ((rd_T29 a0 x4).f0) ((rd_T29 a0 x4).f1) ((rd_T29 a0 x4).f2) ((rd_T29 a0 x4).f3) ((rd_T29 a0 x4).f4)).bind fun a1 => (if a2.length < 1759218604441 then (spec_l2Copy.l0 k (wrap64 (x4 + 1)) b2 b3 b4 a0 b5 a4 a5 a6 (a2 ++ [(⟨a1.1, a1.2.1, a1.2.2.1, a1.2.2.2.1, a1.2.2.2.2⟩ : S29)]) a7) else (none))) else (none)) else (some (a4, a5, a6, a2, a7))
def spec_l2Copy.f : Nat → Int → Int → ByteArray → List (S29) → List ByteArray → Option (Int × Int × ByteArray × (List (S29)) × List ByteArray)
 | 0, _, _, _, _, _ => none
 | k + 1, a8, a9, b0, b6, a3 => (some (([] : List ByteArray) : List ByteArray)).bind fun b1 => (if b1.length + a3.length < 8796093022208 then (spec_l2Copy.l0 k 0 a8 a9 b0 b6 a3 a8 a9 b0 ([] : List (S29)) (b1 ++ a3)) else (none))
end
def spec_l2Copy.T1 : Bool × List (List Nat × List Nat) := (true, [([], []), ([0], [0]), ([], []), ([2], [2]), ([], []), ([4], [4]), ([], []), ([], []), ([7], [7]), ([6, 8], [6, 8]), ([1, 3, 5, 9], [1, 3, 5, 9]), ([], []), ([11, 10, 9, 0, 1, 2, 3, 4, 5, 6, 7, 8, 9, 10, 11], [10, 11])])
def spec_l2Copy.B1 : List Nat := [0, 1, 0, 4, 0, 16, 0, 0, 128, 448, 1023, 0, 4095]
theorem spec_l2Copy.tab1 : rtab .any (opsOf Try.f28 1) = spec_l2Copy.T1 := by kernel_rfl
theorem spec_l2Copy.bits1 : waitsOk spec_l2Copy.T1.2 spec_l2Copy.B1 = true := by kernel_rfl
theorem spec_l2Copy.calls (k : Nat) : ∀ (a4 a6 : Int) (a7 : ByteArray) (c6 : Option Addr) (c0 : Nat) (a9 : List (S29)) (c1 : Option Addr) (c3 : Nat) (b0 : List ByteArray) (r1 r2 : Int) (r3 : ByteArray) (r4 : List (S29)) (r5 : List ByteArray) (w : World) (g5 : Kd.C k29 w c6 a9.length a9) (g6 : a9.length ≤ c0) (g7 : Kd.C Kd.string w c1 b0.length b0) (g8 : b0.length ≤ c3) (h : spec_l2Copy.f k a4 a6 a7 a9 b0 = some (r1, r2, r3, r4, r5)),
  Calls Try.prog 28 #[.agg #[.int .i64 a4, .int .i64 a6, .string a7, .slice c6 a9.length c0, .slice c1 b0.length c3]] w fun e w' => ∃ i6 g9 : Value, e = .returned (.agg #[.int .i64 r1, .int .i64 r2, .string r3, i6, g9]) ∧ Kd.S k29 29 w' w.heap.size (fun k_ => some k_ ≠ (g9 : Value).ownBlock) i6 r4 ∧ Kd.R Kd.string 9 w' w.heap.size (fun _ => True) g9 r5 ∧ Below w.heap.size w w' := by
 induction k using Nat.strongRecOn with
 | _ k ih =>
 intro a4 a6 a7 c6 c0 a9 c1 c3 b0 r1 r2 r3 r4 r5 w g5 g6 g7 g8 h
 cases k with
 | zero => exact absurd h (by simp [spec_l2Copy.f])
 | succ k =>
 simp only [spec_l2Copy.f] at h
 have o4 := Try.underlying29
 have l7 := zA g5
 have o5 := zA g6
 clear g5 g6
 have h0 := zA g7
 have o6 := zA g8
 clear g7 g8
 have HB := zA (Below.refl w.heap.size w)
 have H := h
 clear h
 obtain ⟨e7, h1⟩ : ∃ y_ : List ByteArray, y_ = (([] : List ByteArray)) := ⟨_, rfl⟩
 replace H : (if e7.length + b0.length < 8796093022208 then (spec_l2Copy.l0 k 0 a4 a6 a7 a9 b0 a4 a6 a7 ([] : List (S29)) (e7 ++ b0)) else (none)) = some (r1, r2, r3, r4, r5) := zY h1 H
 have g1 := zA h1
 clear h1
 replace H := zC0 H
 obtain ⟨c2, H⟩ := H
 have h2 := zA c2
 clear c2
 obtain ⟨b2, h3⟩ : ∃ y_ : List ByteArray, y_ = (e7 ++ b0) := ⟨_, rfl⟩
 replace H : (spec_l2Copy.l0 k 0 a4 a6 a7 a9 b0 a4 a6 a7 ([] : List (S29)) b2) = some (r1, r2, r3, r4, r5) := zY h3 H
 have h4 := zA h3
 clear h3
 have H' := zA H
 clear H
 go_enter Try.func28, Try.ntmps28
 try go_wp2_with (first | ((with_reducible refine zd 1 ?_); refine ze 1 29 #[.int .i64 a4, .int .i64 a6, .string a7, .slice c6 a9.length c0, .slice c1 b0.length c3] ?_; intro a8 hg w3 hbox hb; have a0 := zA (hbox); have o7 := zi HB hg; have o8 := zi HB hg; replace HB := zA (below_step (zB) hb); clear hb hbox hg) | ((with_reducible refine zd 2 ?_); refine ze 2 29 #[.int .i64 0, .int .i64 0, .string (⟨#[]⟩ : ByteArray), .slice none 0 0, .slice none 0 0] ?_; intro b3 hg w4 hbox hb; have a2 := zA (hbox); have o9 := zi HB hg; have p0 := zi HB hg; replace HB := zh HB hb; have i7 := zA (zL hg (zK a0.out)); have i8 := zA (zJ hg (zK a0.out)); replace a0 := zb a0 hb; clear hb hbox hg))
 replace a0 := zA (blk_drew a0.out)
 replace a2 := zA (blk_drew a2.out)
 replace HB := zA (below_drew1 HB.out)
 refine start_ (n := 13) (S := fun w' => w'.cell? ⟨a8, 0, none⟩ = some (.int .i64 a4) ∧ w'.cell? ⟨a8, 1, none⟩ = some (.int .i64 a6) ∧ w'.cell? ⟨a8, 2, none⟩ = some (.string a7) ∧ w'.cell? ⟨a8, 3, none⟩ = some (.slice c6 a9.length c0) ∧ w'.cell? ⟨a8, 4, none⟩ = some (.slice c1 b0.length c3)) (ds := []) (Array.replicate 13 false) (by kernel_rfl) rfl rfl zO fun hHeld => ?_; refine with_tabW spec_l2Copy.tab1 spec_l2Copy.bits1 (fun HT_ HW_ => ?_)
 generalize w4.drew = w5 at a0 a2 HB hHeld ⊢
 refine zp 0 6 ?_
 refine zp 2 8 ?_
 refine zp 4 10 ?_
 refine zp 7 13 ?_
 refine zt 1 7 ?_
 refine zt 3 9 ?_
 refine zt 5 11 ?_
 refine zt 8 14 ?_
 refine join_ (σ := Value × Value × Nat) 1 #[true, true, true, true, true, true, true, true, true, true, true, true, false] (fun s_ => [(12, s_.1), (15, s_.2.1), (3, .pointer (some ⟨s_.2.2, 0, none⟩)), (16, .agg #[.int .i64 a4, .int .i64 a6, .string a7, .slice none 0 0, s_.2.1])]) (fun s_ w' => (w'.cell? ⟨a8, 0, none⟩ = some (.int .i64 a4) ∧ w'.cell? ⟨a8, 1, none⟩ = some (.int .i64 a6) ∧ w'.cell? ⟨a8, 2, none⟩ = some (.string a7) ∧ w'.cell? ⟨a8, 3, none⟩ = some (.slice c6 a9.length c0) ∧ w'.cell? ⟨a8, 4, none⟩ = some (.slice c1 b0.length c3)) ∧ (Kd.R Kd.string 9 w' w.heap.size (fun _ => True) s_.2.1 b2) ∧ (w'.heap[a8]? = some (.cells #[.int .i64 a4, .int .i64 a6, .string a7, .slice c6 a9.length c0, .slice c1 b0.length c3] 29 (0, 0))) ∧ (w'.heap[b3]? = some (.cells #[.int .i64 0, .int .i64 0, .string (⟨#[]⟩ : ByteArray), .slice none 0 0, .slice none 0 0] 29 (0, 0))) ∧ (w'.heap[s_.2.2]? = some (.cells #[.int .i64 0, .int .i64 0, .string (⟨#[]⟩ : ByteArray), .slice none 0 0, .slice none 0 0] 29 (0, 0))) ∧ (w.heap.size ≤ s_.2.2) ∧ (w.heap.size ≤ s_.2.2) ∧ (a8 ≠ s_.2.2) ∧ (s_.2.2 ≠ a8) ∧ (b3 ≠ s_.2.2) ∧ (s_.2.2 ≠ b3) ∧ (Below w.heap.size w w')) ?_ ?_
 rotate_left
 ·intro hCont
  refine two_ (i := 6) (j := 11) (Ni := some 12) (Nj := some 3) #[true, true, true, true, true, true, true, true, true, false, false, false, false] #[true, true, true, true, true, true, false, true, true, false, false, true, false] rfl rfl rfl rfl (two_of HT_.out (by kernel_rfl)) (by decide) (by decide) (fun K hK => ?_) (fun K hK => ?_)
  ·skip
   refine Kd.R_lit_step Kd.string _ 9 ?hg (N := 12) ?hd (xs := ([] : List ByteArray)) (inner := []) (ok := fun _ => True) ?hr ?hp (fun _ hk => hk) trivial (Below.refl _ _) (Nat.le_refl _) (by simp) ?_; (case hd => rfl); (case hg => rfl); (case hr => first | (go_simp; done) | (go_simp; rfl)); (case hp => exact (Reps.none _ _))
   intro e2 w6 f6 hb hg_ hnew_
   clear hg_ hnew_
   (first | rw [← g1.out] at f6 | (simp only [Int.reduceToNat] at f6; rw [← g1.out] at f6))
   have b5 := zA (Kd.R_lower f6 (below_size (zW HB.out))); replace a0 := zb a0 hb; replace a2 := zb a2 hb; replace HB := zh HB hb; clear hb f6
   refine hK.out _ _ zO fun hHeld => ?_
   clear hK K; refine zn ?_
   refine two_ (i := 9) (j := 11) (Ni := some 15) (Nj := some 3) #[true, true, true, true, true, true, true, true, true, true, false, false, false] #[true, true, true, true, true, true, true, true, true, false, false, true, false] rfl rfl rfl rfl (two_of HT_.out (by kernel_rfl)) (by decide) (by decide) (fun K hK => ?_) (fun K hK => ?_)
   ·skip
    refine Kd.R_append_rows_step Kd.string (w0 := w) w.heap.size (by rfl) (.tmp 12) (.tmp 14) 23 9 (.string ⟨#[]⟩) 16 rfl Try.underlying23 info9 rfl (by decide) (by omega) e2 e7 b0 _ _ _ (fun _ => True) (fun _ => False) rfl rfl ?aO ?aR (fun _ _ h => h) (fun _ h => h.elim) ?aF ?aB ?aS ?aL ?_
    (case aR => exact zC (Kd.C_below h0.out HB.out))
    (case aB => exact (zW HB.out))
    (case aF => exact (fun _ _ => trivial))
    (case aO => exact (zR b5.out))
    (case aS => exact (below_size (zW HB.out)))
    (case aL => have := h2.out; omega)
    intro g2 w8 ho hb hg hat
    rw [← h4.out] at ho; replace a0 := zA (blk_grown (g := a8) (o := .cells #[.int .i64 a4, .int .i64 a6, .string a7, .slice c6 a9.length c0, .slice c1 b0.length c3] 29 (0, 0)) (zK a0.out) hg (Kd.R_ne b5.out a0.out (by decide))); replace a2 := zA (blk_grown (g := b3) (o := .cells #[.int .i64 0, .int .i64 0, .string (⟨#[]⟩ : ByteArray), .slice none 0 0, .slice none 0 0] 29 (0, 0)) (zK a2.out) hg (Kd.R_ne b5.out a2.out (by decide))); replace HB := zA (hb); have c7 := zA (ho); clear b5; clear ho hb hg hat; obtain ⟨l8, l9, i9⟩ := Kd.R_slice c7.out
    (first | subst i9 | (injection i9 with f1_ f2_ f3_; have e3 := f1_.symm; have e4 := f3_.symm; clear f1_ f2_ f3_; subst e3; subst e4))
    refine hK.out _ _ zO fun hHeld => ?_
    clear hK K; refine zn ?_; refine zp 10 16 ?_
    refine zo 11 (some 3) fun K hK => ?_
    refine box_step ?hg (N := 3) ?hd (cs := #[.int .i64 0, .int .i64 0, .string (⟨#[]⟩ : ByteArray), .slice none 0 0, .slice none 0 0]) (t := 29) ?hr ?_; (case hd => rfl); (case hg => rfl); (case hr => first | (go_simp; done) | (go_simp; rfl))
    intro a1 hg p1 hbox hb
    replace c7 := zr c7 hb; have a3 := zA (hbox); have e8 := zi HB hg; have e9 := zi HB hg; replace HB := zh HB hb; have a5 := zA (zL hg (zK a0.out)); have c8 := zA (zJ hg (zK a0.out)); replace a0 := zb a0 hb; have c9 := zA (zL hg (zK a2.out)); have d0 := zA (zJ hg (zK a2.out)); replace a2 := zb a2 hb; clear hb hbox hg
    refine hK.out _ _ zO fun hHeld => ?_
    clear hK K; refine zn ?_
    exact norm_ (by simp only [putAll, Act.put, zT]) (hCont (e2, .slice l8 b2.length l9, a1) _ ⟨hHeld, (zR c7.out), (zK a0.out), (zK a2.out), (zK a3.out), e8.out, e9.out, a5.out, c8.out, c9.out, d0.out, (zW HB.out)⟩)
   ·skip
    refine box_step ?hg (N := 3) ?hd (cs := #[.int .i64 0, .int .i64 0, .string (⟨#[]⟩ : ByteArray), .slice none 0 0, .slice none 0 0]) (t := 29) ?hr ?_; (case hd => rfl); (case hg => rfl); (case hr => first | (go_simp; done) | (go_simp; rfl))
    intro a1 hg w8 hbox hb
    replace b5 := zr b5 hb; have a3 := zA (hbox); have e8 := zi HB hg; have e9 := zi HB hg; replace HB := zh HB hb; have a5 := zA (zL hg (zK a0.out)); have c8 := zA (zJ hg (zK a0.out)); replace a0 := zb a0 hb; have c9 := zA (zL hg (zK a2.out)); have d0 := zA (zJ hg (zK a2.out)); replace a2 := zb a2 hb; clear hb hbox hg
    refine hK.out _ _ zO fun hHeld => ?_
    clear hK K; refine zn ?_
    refine zo 9 (some 15) fun K hK => ?_
    refine Kd.R_append_rows_step Kd.string (w0 := w) w.heap.size (by rfl) (.tmp 12) (.tmp 14) 23 9 (.string ⟨#[]⟩) 16 rfl Try.underlying23 info9 rfl (by decide) (by omega) e2 e7 b0 _ _ _ (fun _ => True) (fun _ => False) rfl rfl ?aO ?aR (fun _ _ h => h) (fun _ h => h.elim) ?aF ?aB ?aS ?aL ?_
    (case aR => exact zC (Kd.C_below h0.out HB.out))
    (case aB => exact (zW HB.out))
    (case aF => exact (fun _ _ => trivial))
    (case aO => exact (zR b5.out))
    (case aS => exact (below_size (zW HB.out)))
    (case aL => have := h2.out; omega)
    intro g2 w9 ho hb hg hat
    rw [← h4.out] at ho; replace a0 := zA (blk_grown (g := a8) (o := .cells #[.int .i64 a4, .int .i64 a6, .string a7, .slice c6 a9.length c0, .slice c1 b0.length c3] 29 (0, 0)) (zK a0.out) hg (Kd.R_ne b5.out a0.out (by decide))); replace a2 := zA (blk_grown (g := b3) (o := .cells #[.int .i64 0, .int .i64 0, .string (⟨#[]⟩ : ByteArray), .slice none 0 0, .slice none 0 0] 29 (0, 0)) (zK a2.out) hg (Kd.R_ne b5.out a2.out (by decide))); replace a3 := zA (blk_grown (g := a1) (o := .cells #[.int .i64 0, .int .i64 0, .string (⟨#[]⟩ : ByteArray), .slice none 0 0, .slice none 0 0] 29 (0, 0)) (zK a3.out) hg (Kd.R_ne b5.out a3.out (by decide))); replace HB := zA (hb); have c7 := zA (ho); clear b5; clear ho hb hg hat; obtain ⟨h5, h6, f7⟩ := Kd.R_slice c7.out
    (first | subst f7 | (injection f7 with f1_ f2_ f3_; have e3 := f1_.symm; have e4 := f3_.symm; clear f1_ f2_ f3_; subst e3; subst e4))
    refine hK.out _ _ zO fun hHeld => ?_
    clear hK K; refine zn ?_; refine zp 10 16 ?_
    exact norm_ (by simp only [putAll, Act.put, zT]) (hCont (e2, .slice h5 b2.length h6, a1) _ ⟨hHeld, (zR c7.out), (zK a0.out), (zK a2.out), (zK a3.out), e8.out, e9.out, a5.out, c8.out, c9.out, d0.out, (zW HB.out)⟩)
  ·skip
   refine box_step ?hg (N := 3) ?hd (cs := #[.int .i64 0, .int .i64 0, .string (⟨#[]⟩ : ByteArray), .slice none 0 0, .slice none 0 0]) (t := 29) ?hr ?_; (case hd => rfl); (case hg => rfl); (case hr => first | (go_simp; done) | (go_simp; rfl))
   intro a1 hg w6 hbox hb
   have a3 := zA (hbox); have e8 := zi HB hg; have e9 := zi HB hg; replace HB := zh HB hb; have a5 := zA (zL hg (zK a0.out)); have c8 := zA (zJ hg (zK a0.out)); replace a0 := zb a0 hb; have c9 := zA (zL hg (zK a2.out)); have d0 := zA (zJ hg (zK a2.out)); replace a2 := zb a2 hb; clear hb hbox hg
   refine hK.out _ _ zO fun hHeld => ?_
   clear hK K; refine zn ?_
   refine zo 6 (some 12) fun K hK => ?_
   refine Kd.R_lit_step Kd.string _ 9 ?hg (N := 12) ?hd (xs := ([] : List ByteArray)) (inner := []) (ok := fun _ => True) ?hr ?hp (fun _ hk => hk) trivial (Below.refl _ _) (Nat.le_refl _) (by simp) ?_; (case hd => rfl); (case hg => rfl); (case hr => first | (go_simp; done) | (go_simp; rfl)); (case hp => exact (Reps.none _ _))
   intro e2 w7 f8 hb hg_ hnew_
   clear hg_ hnew_
   (first | rw [← g1.out] at f8 | (simp only [Int.reduceToNat] at f8; rw [← g1.out] at f8))
   have b5 := zA (Kd.R_lower f8 (below_size (zW HB.out))); replace a0 := zb a0 hb; replace a2 := zb a2 hb; replace a3 := zb a3 hb; replace HB := zh HB hb; clear hb f8
   refine hK.out _ _ zO fun hHeld => ?_
   clear hK K; refine zn ?_
   refine zo 9 (some 15) fun K hK => ?_
   refine Kd.R_append_rows_step Kd.string (w0 := w) w.heap.size (by rfl) (.tmp 12) (.tmp 14) 23 9 (.string ⟨#[]⟩) 16 rfl Try.underlying23 info9 rfl (by decide) (by omega) e2 e7 b0 _ _ _ (fun _ => True) (fun _ => False) rfl rfl ?aO ?aR (fun _ _ h => h) (fun _ h => h.elim) ?aF ?aB ?aS ?aL ?_
   (case aR => exact zC (Kd.C_below h0.out HB.out))
   (case aB => exact (zW HB.out))
   (case aF => exact (fun _ _ => trivial))
   (case aO => exact (zR b5.out))
   (case aS => exact (below_size (zW HB.out)))
   (case aL => have := h2.out; omega)
   intro g2 w9 ho hb hg hat
   rw [← h4.out] at ho; replace a0 := zA (blk_grown (g := a8) (o := .cells #[.int .i64 a4, .int .i64 a6, .string a7, .slice c6 a9.length c0, .slice c1 b0.length c3] 29 (0, 0)) (zK a0.out) hg (Kd.R_ne b5.out a0.out (by decide))); replace a2 := zA (blk_grown (g := b3) (o := .cells #[.int .i64 0, .int .i64 0, .string (⟨#[]⟩ : ByteArray), .slice none 0 0, .slice none 0 0] 29 (0, 0)) (zK a2.out) hg (Kd.R_ne b5.out a2.out (by decide))); replace a3 := zA (blk_grown (g := a1) (o := .cells #[.int .i64 0, .int .i64 0, .string (⟨#[]⟩ : ByteArray), .slice none 0 0, .slice none 0 0] 29 (0, 0)) (zK a3.out) hg (Kd.R_ne b5.out a3.out (by decide))); replace HB := zA (hb); have c7 := zA (ho); clear b5; clear ho hb hg hat; obtain ⟨h5, h6, f7⟩ := Kd.R_slice c7.out
   (first | subst f7 | (injection f7 with f1_ f2_ f3_; have e3 := f1_.symm; have e4 := f3_.symm; clear f1_ f2_ f3_; subst e3; subst e4))
   refine hK.out _ _ zO fun hHeld => ?_
   clear hK K; refine zn ?_; refine zp 10 16 ?_
   exact norm_ (by simp only [putAll, Act.put, zT]) (hCont (e2, .slice h5 b2.length h6, a1) _ ⟨hHeld, (zR c7.out), (zK a0.out), (zK a2.out), (zK a3.out), e8.out, e9.out, a5.out, c8.out, c9.out, d0.out, (zW HB.out)⟩)
 rintro ⟨e2, g2, a1⟩ d7 ⟨hS_, j0, j1, j2, j3, j4, j5, j6, j7, j8, j9, k0⟩
 have c7 : Aside0 (Kd.R Kd.string 9 d7 w.heap.size (fun _ => True) g2 b2) := ⟨j0⟩
 replace a0 : Aside0 (d7.heap[a8]? = some (.cells #[.int .i64 a4, .int .i64 a6, .string a7, .slice c6 a9.length c0, .slice c1 b0.length c3] 29 (0, 0))) := ⟨j1⟩
 replace a2 : Aside0 (d7.heap[b3]? = some (.cells #[.int .i64 0, .int .i64 0, .string (⟨#[]⟩ : ByteArray), .slice none 0 0, .slice none 0 0] 29 (0, 0))) := ⟨j2⟩
 have a3 : Aside0 (d7.heap[a1]? = some (.cells #[.int .i64 0, .int .i64 0, .string (⟨#[]⟩ : ByteArray), .slice none 0 0, .slice none 0 0] 29 (0, 0))) := ⟨j3⟩
 have e8 : Aside0 (w.heap.size ≤ a1) := ⟨j4⟩
 have e9 : Aside0 (w.heap.size ≤ a1) := ⟨j5⟩
 have a5 : Aside0 (a8 ≠ a1) := ⟨j6⟩
 have c8 : Aside0 (a1 ≠ a8) := ⟨j7⟩
 have c9 : Aside0 (b3 ≠ a1) := ⟨j8⟩
 have d0 : Aside0 (a1 ≠ b3) := ⟨j9⟩
 replace HB : Aside0 (Below w.heap.size w d7) := ⟨k0⟩
 clear j0 j1 j2 j3 j4 j5 j6 j7 j8 j9 k0
 have hHeld : d7.cell? ⟨a8, 0, none⟩ = some (.int .i64 a4) ∧ d7.cell? ⟨a8, 1, none⟩ = some (.int .i64 a6) ∧ d7.cell? ⟨a8, 2, none⟩ = some (.string a7) ∧ d7.cell? ⟨a8, 3, none⟩ = some (.slice c6 a9.length c0) ∧ d7.cell? ⟨a8, 4, none⟩ = some (.slice c1 b0.length c3) := hS_
 obtain ⟨b7, b8, k2⟩ := Kd.R_slice c7.out
 (first | subst k2 | (injection k2 with f1_ f2_ f3_; have e3 := f1_.symm; have e4 := f3_.symm; clear f1_ f2_ f3_; subst e3; subst e4))
 refine norm_ (a' := ?_) ?_ ?_
 rotate_left
 ·simp only [putAll, Act.put, zT]
  rfl
 refine zo 12 none fun K hK => ?_
 have p3 := zc0 a3.out
 have p4 := zF a3.out 0
 have p5 := a5.out
 have p6 := c9.out
 have p7 := c8.out
 have p8 := d0.out
 have p9 := zc1 a3.out
 have q0 := zF a3.out 1
 have q1 := a5.out
 have q2 := c9.out
 have q3 := c8.out
 have q4 := d0.out
 have q5 := zc2 a3.out
 have q6 := zF a3.out 2
 have q7 := a5.out
 have q8 := c9.out
 have q9 := c8.out
 have r0 := d0.out
 have r6 := zc3 a3.out
 have r7 := zF a3.out 3
 have r8 := a5.out
 have r9 := c9.out
 have t0 := c8.out
 have t1 := d0.out
 have t2 := zc4 a3.out
 have t3 := zF a3.out 4
 have t4 := a5.out
 have t5 := c9.out
 have t6 := c8.out
 have t7 := d0.out
 refine skip_ (w1 := ?_) (by rfl) rfl ?_ ?_
 rotate_left
 ·go_simp
  rfl
 refine hK.out _ _ ⟨((cell_far (p := ⟨a1, _, none⟩) a5.out _).trans (((cell_far (p := ⟨a1, _, none⟩) a5.out _).trans (((cell_far (p := ⟨a1, _, none⟩) a5.out _).trans (((cell_far (p := ⟨a1, _, none⟩) a5.out _).trans (((cell_far (p := ⟨a1, _, none⟩) a5.out _).trans (hHeld.1)))))))))), ((cell_far (p := ⟨a1, _, none⟩) a5.out _).trans (((cell_far (p := ⟨a1, _, none⟩) a5.out _).trans (((cell_far (p := ⟨a1, _, none⟩) a5.out _).trans (((cell_far (p := ⟨a1, _, none⟩) a5.out _).trans (((cell_far (p := ⟨a1, _, none⟩) a5.out _).trans (hHeld.2.1)))))))))), ((cell_far (p := ⟨a1, _, none⟩) a5.out _).trans (((cell_far (p := ⟨a1, _, none⟩) a5.out _).trans (((cell_far (p := ⟨a1, _, none⟩) a5.out _).trans (((cell_far (p := ⟨a1, _, none⟩) a5.out _).trans (((cell_far (p := ⟨a1, _, none⟩) a5.out _).trans (hHeld.2.2.1)))))))))), ((cell_far (p := ⟨a1, _, none⟩) a5.out _).trans (((cell_far (p := ⟨a1, _, none⟩) a5.out _).trans (((cell_far (p := ⟨a1, _, none⟩) a5.out _).trans (((cell_far (p := ⟨a1, _, none⟩) a5.out _).trans (((cell_far (p := ⟨a1, _, none⟩) a5.out _).trans (hHeld.2.2.2.1)))))))))), ((cell_far (p := ⟨a1, _, none⟩) a5.out _).trans (((cell_far (p := ⟨a1, _, none⟩) a5.out _).trans (((cell_far (p := ⟨a1, _, none⟩) a5.out _).trans (((cell_far (p := ⟨a1, _, none⟩) a5.out _).trans (((cell_far (p := ⟨a1, _, none⟩) a5.out _).trans (hHeld.2.2.2.2))))))))))⟩ (fun hHeld => ?_)
 clear hK K
 refine done_ (done_of HT_.out (by kernel_rfl)) ?_
 try go_wp2
 go_loopg [4] k (fun kq v4 w' => ∃ (b4 : Int) (d9 : List (S29)) (d3 : Value), v4 = .int .i64 b4 ∧ Aside0 (spec_l2Copy.l0 kq b4 a4 a6 a7 a9 b0 a4 a6 a7 d9 b2 = some (r1, r2, r3, r4, r5)) ∧ Aside0 (kq ≤ k) ∧ Aside0 (Kd.S k29 29 w' w.heap.size (fun k_ => some k_ ≠ ((.slice b7 b2.length b8) : Value).ownBlock ∧ k_ ≠ a8 ∧ k_ ≠ b3 ∧ k_ ≠ a1) d3 d9) ∧ Aside0 (Kd.R Kd.string 9 w' w.heap.size (fun _ => True) (.slice b7 b2.length b8) b2) ∧ Aside0 (w'.heap[a8]? = some (.cells #[.int .i64 a4, .int .i64 a6, .string a7, (.slice c6 a9.length c0), (.slice c1 b0.length c3)] 29 (0, 0))) ∧ Aside0 (w'.heap[b3]? = some (.cells #[.int .i64 0, .int .i64 0, .string (⟨#[]⟩ : ByteArray), (.slice none 0 0), (.slice none 0 0)] 29 (0, 0))) ∧ Aside0 (w'.heap[a1]? = some (.cells #[.int .i64 a4, .int .i64 a6, .string a7, d3, (.slice b7 b2.length b8)] 29 (0, 0))) ∧ Aside0 (Below w.heap.size w w'))
 case atStart => exact ⟨(0), (([] : List (S29))), (.slice none 0 0), zS, H', ⟨Nat.le_refl _⟩, ⟨by first | exact Kd.S_nil _ _ _ _ _ | exact Kd.N_nil _ _ _ _ _ | exact Kd.V_nil _ _ _ _ _ | exact Kd.Q_nil _ _ _ _ _ | exact Kd.R_nil _ _ _ _ _⟩, ⟨zR (Kd.R_mono (zr5 c7.out a3.out) (fun _ hk => trivial))⟩, ⟨zK a0.out⟩, ⟨zK a2.out⟩, ⟨by (with_reducible repeat (first | refine blk_drewN ?_ _ | refine blk_drew ?_ | refine blk_alloc ?_ _)); refine blk_put (cs := #[.int .i64 a4, .int .i64 a6, .string a7, .slice none 0 0, .slice none 0 0]) ?_ 4 _ rfl; (with_reducible repeat (first | refine blk_drewN ?_ _ | refine blk_drew ?_ | refine blk_alloc ?_ _)); refine blk_put (cs := #[.int .i64 a4, .int .i64 a6, .string a7, .slice none 0 0, .slice none 0 0]) ?_ 3 _ rfl; (with_reducible repeat (first | refine blk_drewN ?_ _ | refine blk_drew ?_ | refine blk_alloc ?_ _)); refine blk_put (cs := #[.int .i64 a4, .int .i64 a6, .string (⟨#[]⟩ : ByteArray), .slice none 0 0, .slice none 0 0]) ?_ 2 _ rfl; (with_reducible repeat (first | refine blk_drewN ?_ _ | refine blk_drew ?_ | refine blk_alloc ?_ _)); refine blk_put (cs := #[.int .i64 a4, .int .i64 0, .string (⟨#[]⟩ : ByteArray), .slice none 0 0, .slice none 0 0]) ?_ 1 _ rfl; (with_reducible repeat (first | refine blk_drewN ?_ _ | refine blk_drew ?_ | refine blk_alloc ?_ _)); refine blk_put (cs := #[.int .i64 0, .int .i64 0, .string (⟨#[]⟩ : ByteArray), .slice none 0 0, .slice none 0 0]) ?_ 0 _ rfl; (with_reducible repeat (first | refine blk_drewN ?_ _ | refine blk_drew ?_ | refine blk_alloc ?_ _)); exact a3.out⟩, ⟨zW HB.out⟩⟩
 case round =>
  clear H'
  try clear c2
  try clear p2
  obtain ⟨b4, d9, d3, rfl, HA, h7, b6, d1, a0, a2, a3, HB⟩ := hrel
  cases gk with
  | zero => exact absurd HA.out (by simp [spec_l2Copy.l0])
  | succ k1 =>
   have H := HA.out; clear HA; simp only [spec_l2Copy.l0] at H; replace H := zI0 H
   rcases H with ⟨m0, H⟩ | ⟨m0, H⟩
   ·replace H := zD0 H; obtain ⟨t8, H⟩ := H; replace H := Option.bind_eq_some_iff.mp H; obtain ⟨⟨c4, d2, d4, c5, b9⟩, k3, H⟩ := H
    try dsimp only at H
    have m1 := zA k3; clear k3; replace H := zC0 H; obtain ⟨k4, H⟩ := H; have m2 := zA k4; clear k4; obtain ⟨f9, h8⟩ : ∃ y_ : List (S29), y_ = (d9 ++ [(⟨c4, d2, d4, c5, b9⟩ : S29)]) := ⟨_, rfl⟩; replace H : (spec_l2Copy.l0 k1 (wrap64 (b4 + 1)) a4 a6 a7 a9 b0 a4 a6 a7 f9 b2) = some (r1, r2, r3, r4, r5) := zY h8 H; have m3 := zA h8; clear h8; have H' := zA H; clear H; have t9 := i7.out; have v0 := i8.out; have v1 := a5.out; have v2 := c8.out; obtain ⟨v3, v5, v6, v7, v8, v9, x0, x1, x2, x3⟩ := ze5 a0.out; have h9 : 0 ≤ (b4 : Int) := zD; have i0 : b4 < (a9.length : Int) := zD; obtain ⟨k5, m4, m5, m6, m7, m8, k6, k7, k8, k9, l1, l2, l3, l4, l5⟩ := at_T29 l7.out b4 h9 i0; cases m8; replace k6 := zx HB k6; replace k7 := zx HB k7; replace k8 := zx HB k8; replace k9 := zx HB k9; replace l1 := zx HB l1; have m9 := zA l3; have n0 := zA l2; clear l3 l2; have n1 := zA l5; have n2 := zA l4; clear l5 l4; replace h9 := eq_true h9; replace i0 := eq_true i0
    go_wp2_with (first | ((with_reducible refine zq 28 ?_); refine zg (some 29) Try.func28 #[.agg #[.int .i64 ((rd_T29 a9 b4).f0), .int .i64 ((rd_T29 a9 b4).f1), .string ((rd_T29 a9 b4).f2), .slice m4 ((rd_T29 a9 b4).f3).length m5, .slice m6 ((rd_T29 a9 b4).f4).length m7]] ?_; (with_reducible refine (ih k1 (by have := h7.out; omega) ((rd_T29 a9 b4).f0) ((rd_T29 a9 b4).f1) ((rd_T29 a9 b4).f2) _ _ ((rd_T29 a9 b4).f3) _ _ ((rd_T29 a9 b4).f4) c4 d2 d4 c5 b9 _ ?s1 ?s2 ?s3 ?s4 m1.out).mono ?_); (case s1 => exact zC (Kd.C_below m9.out HB.out)); (case s2 => exact n0.out); (case s3 => exact zC (Kd.C_below n1.out HB.out)); (case s4 => exact n2.out); rintro e x4 ⟨x5, x6, rfl, i1, g3, hb⟩; refine ⟨_, rfl, ?_⟩; obtain ⟨f5, g4⟩ := Deep.named hb; have e5 := zA (Kd.S_lower (Kd.S_newB (Kd.S_newB (Kd.S_newB (Kd.S_new' (Kd.S_new' (Deep.S_newT g4 i1) (Kd.S_lt (by (with_reducible repeat (first | apply Kd.S_alloc | apply Kd.S_drewN | apply Kd.S_drew)); exact b6.out))) (Kd.R_lt (zR d1.out))) (g := a8) (o := .cells #[.int .i64 a4, .int .i64 a6, .string a7, .slice (some k5) a9.length c0, .slice c1 b0.length c3] 29 (0, 0)) (zK a0.out)) (g := b3) (o := .cells #[.int .i64 0, .int .i64 0, .string (⟨#[]⟩ : ByteArray), .slice none 0 0, .slice none 0 0] 29 (0, 0)) (zK a2.out)) (g := a1) (o := .cells #[.int .i64 a4, .int .i64 a6, .string a7, d3, .slice b7 b2.length b8] 29 (0, 0)) (zK a3.out)) (below_size (zW HB.out))); replace b6 := zA (Deep.S_oldT g4 (Kd.S_told (Kd.S_told (Kd.S_old (by (with_reducible repeat (first | apply Kd.S_alloc | apply Kd.S_drewN | apply Kd.S_drew)); exact b6.out) hb) (Kd.S_base i1)) (Kd.R_base g3))); have e6 := zA (Kd.R_lower (Kd.R_new' (Deep.R_newT g4 g3) (Kd.R_lt (zR d1.out))) (below_size (zW HB.out))); replace d1 := zA (Kd.R_elder' (zR d1.out) (Kd.R_base g3) hb); replace a0 := zb a0 hb; replace a2 := zb a2 hb; replace a3 := zb a3 hb; replace HB := zh HB hb; clear g4; (try clear hb i1 g3)) | ((with_reducible refine zd 5 ?_); refine ze 5 29 #[.int .i64 0, .int .i64 0, .string (⟨#[]⟩ : ByteArray), .slice none 0 0, .slice none 0 0] ?_; intro b1 hg n3 hbox hb; replace b6 := zA (Kd.S_below (Kd.S_elderB (by (with_reducible repeat (first | apply Kd.S_alloc | apply Kd.S_drewN | apply Kd.S_drew)); exact b6.out) b1 (Nat.le_of_eq hg.symm)) hb); replace d1 := zr d1 hb; replace e5 := zA (Kd.S_below (Kd.S_elderB (by (with_reducible repeat (first | apply Kd.S_alloc | apply Kd.S_drewN | apply Kd.S_drew)); exact e5.out) b1 (Nat.le_of_eq hg.symm)) hb); replace e6 := zr e6 hb; have d8 := zA (hbox); have x7 := zi HB hg; have x8 := zi HB hg; replace HB := zh HB hb; have n4 := zA (zL hg (zK a0.out)); have n5 := zA (zJ hg (zK a0.out)); replace a0 := zb a0 hb; have n6 := zA (zL hg (zK a2.out)); have n7 := zA (zJ hg (zK a2.out)); replace a2 := zb a2 hb; have n8 := zA (zL hg (zK a3.out)); have n9 := zA (zJ hg (zK a3.out)); replace a3 := zb a3 hb; clear hb hbox hg; have x9 := n5.out; have y0 := n4.out; have y1 := n7.out; have y2 := n6.out; have y3 := n9.out; have y4 := n8.out; obtain ⟨y5, y6, y7, y8, y9, z0, z1, z2, z3, z4⟩ := ze5 d8.out; obtain ⟨e0, e1, o0⟩ := Kd.S_slice e5.out; subst o0; obtain ⟨d5, d6, o1⟩ := Kd.R_slice e6.out; subst o1) | ((with_reducible refine gate_store (t := 29) (p := 5) rfl ?_); refine store_event (t := 29) (p := 5) (v := ?vo_w34) (w1 := (((((n3.setCell ⟨b1, 0, none⟩ (.int .i64 c4)).setCell ⟨b1, 1, none⟩ (.int .i64 d2)).setCell ⟨b1, 2, none⟩ (.string d4)).setCell ⟨b1, 3, none⟩ (.slice e0 c5.length e1)).setCell ⟨b1, 4, none⟩ (.slice d5 b9.length d6))) ?hg ?ho ?hn ?hr ?_; (case ho => rfl); (case hg => rfl); (case hn => rfl); (case hr => first | (go_simp; done) | (go_simp; rfl)); intro g0 hw; replace b6 : Aside0 (Kd.S k29 29 g0 w.heap.size (fun k_ => some k_ ≠ (.slice b7 b2.length b8 : Value).ownBlock ∧ some k_ ≠ (.slice e0 c5.length e1 : Value).ownBlock ∧ some k_ ≠ (.slice d5 b9.length d6 : Value).ownBlock ∧ k_ ≠ a8 ∧ k_ ≠ b3 ∧ k_ ≠ a1 ∧ k_ ≠ b1 ∧ ¬ f5 k_) d3 d9) := ⟨(by rw [hw]; exact (by (with_reducible repeat (first | apply Kd.S_alloc | apply Kd.S_drewN | apply Kd.S_drew)); exact Kd.S_mono (Kd.S_far (p := ⟨b1, 4, none⟩) (Kd.S_far (p := ⟨b1, 3, none⟩) (Kd.S_far (p := ⟨b1, 2, none⟩) (Kd.S_far (p := ⟨b1, 1, none⟩) (Kd.S_far (p := ⟨b1, 0, none⟩) (Kd.S_mono b6.out (fun k_ hk => (⟨hk, hk.2⟩ : _ ∧ k_ ≠ b1))) (fun _ hk => hk.2) (.int .i64 c4)) (fun _ hk => hk.2) (.int .i64 d2)) (fun _ hk => hk.2) (.string d4)) (fun _ hk => hk.2) (.slice e0 c5.length e1)) (fun _ hk => hk.2) (.slice d5 b9.length d6)) (fun _ hk => ⟨hk.1.1.1.1.1.1, ⟨hk.1.1.1.1.2, ⟨hk.1.1.1.2, ⟨hk.1.1.1.1.1.2.1, ⟨hk.1.1.1.1.1.2.2.1, ⟨hk.1.1.1.1.1.2.2.2, ⟨hk.1.2, hk.1.1.2⟩⟩⟩⟩⟩⟩⟩)))⟩; replace d1 : Aside0 (Kd.R Kd.string 9 g0 w.heap.size (fun k_ => some k_ ≠ (.slice d5 b9.length d6 : Value).ownBlock) (.slice b7 b2.length b8) b2) := ⟨(by rw [hw]; exact (zR (Kd.R_mono (zr5 d1.out d8.out) (fun _ hk => hk.2))))⟩; replace e5 : Aside0 (Kd.S k29 29 g0 w.heap.size (fun k_ => some k_ ≠ (d3 : Value).ownBlock ∧ some k_ ≠ (.slice b7 b2.length b8 : Value).ownBlock ∧ some k_ ≠ (.slice d5 b9.length d6 : Value).ownBlock ∧ k_ ≠ a8 ∧ k_ ≠ b3 ∧ k_ ≠ a1 ∧ k_ ≠ b1 ∧ f5 k_) (.slice e0 c5.length e1) c5) := ⟨(by rw [hw]; exact (by (with_reducible repeat (first | apply Kd.S_alloc | apply Kd.S_drewN | apply Kd.S_drew)); exact Kd.S_mono (Kd.S_far (p := ⟨b1, 4, none⟩) (Kd.S_far (p := ⟨b1, 3, none⟩) (Kd.S_far (p := ⟨b1, 2, none⟩) (Kd.S_far (p := ⟨b1, 1, none⟩) (Kd.S_far (p := ⟨b1, 0, none⟩) (Kd.S_mono e5.out (fun k_ hk => (⟨hk, hk.2⟩ : _ ∧ k_ ≠ b1))) (fun _ hk => hk.2) (.int .i64 c4)) (fun _ hk => hk.2) (.int .i64 d2)) (fun _ hk => hk.2) (.string d4)) (fun _ hk => hk.2) (.slice e0 c5.length e1)) (fun _ hk => hk.2) (.slice d5 b9.length d6)) (fun _ hk => ⟨hk.1.1.1.1.1.1.2, ⟨hk.1.1.1.1.1.2, ⟨hk.1.1.1.1.1.1.1.1, ⟨hk.1.1.1.1.2, ⟨hk.1.1.1.2, ⟨hk.1.1.2, ⟨hk.1.2, hk.1.1.1.1.1.1.1.2⟩⟩⟩⟩⟩⟩⟩)))⟩; replace e6 : Aside0 (Kd.R Kd.string 9 g0 w.heap.size (fun k_ => some k_ ≠ (.slice b7 b2.length b8 : Value).ownBlock ∧ f5 k_) (.slice d5 b9.length d6) b9) := ⟨(by rw [hw]; exact (zR (Kd.R_mono (zr5 e6.out d8.out) (fun _ hk => ⟨hk.2, hk.1.2⟩))))⟩; replace a0 := zA (zh1 hw (zK a0.out)); replace a2 := zA (zh1 hw (zK a2.out)); replace a3 := zA (zh1 hw (zK a3.out)); replace d8 : Aside0 (g0.heap[b1]? = some (.cells #[.int .i64 c4, .int .i64 d2, .string d4, .slice e0 c5.length e1, .slice d5 b9.length d6] 29 (0, 0))) := ⟨(by rw [hw]; exact (by (with_reducible repeat (first | refine blk_drewN ?_ _ | refine blk_drew ?_ | refine blk_alloc ?_ _)); refine blk_put (cs := #[.int .i64 c4, .int .i64 d2, .string d4, .slice e0 c5.length e1, .slice none 0 0]) ?_ 4 _ rfl; (with_reducible repeat (first | refine blk_drewN ?_ _ | refine blk_drew ?_ | refine blk_alloc ?_ _)); refine blk_put (cs := #[.int .i64 c4, .int .i64 d2, .string d4, .slice none 0 0, .slice none 0 0]) ?_ 3 _ rfl; (with_reducible repeat (first | refine blk_drewN ?_ _ | refine blk_drew ?_ | refine blk_alloc ?_ _)); refine blk_put (cs := #[.int .i64 c4, .int .i64 d2, .string (⟨#[]⟩ : ByteArray), .slice none 0 0, .slice none 0 0]) ?_ 2 _ rfl; (with_reducible repeat (first | refine blk_drewN ?_ _ | refine blk_drew ?_ | refine blk_alloc ?_ _)); refine blk_put (cs := #[.int .i64 c4, .int .i64 0, .string (⟨#[]⟩ : ByteArray), .slice none 0 0, .slice none 0 0]) ?_ 1 _ rfl; (with_reducible repeat (first | refine blk_drewN ?_ _ | refine blk_drew ?_ | refine blk_alloc ?_ _)); refine blk_put (cs := #[.int .i64 0, .int .i64 0, .string (⟨#[]⟩ : ByteArray), .slice none 0 0, .slice none 0 0]) ?_ 0 _ rfl; (with_reducible repeat (first | refine blk_drewN ?_ _ | refine blk_drew ?_ | refine blk_alloc ?_ _)); exact d8.out))⟩; replace HB := zA (zh2 hw (zW HB.out)); clear hw; have z5 := d0.out; have z6 := c9.out; obtain ⟨z7, z8, z9, A0, A1, A2, A3, A4, A5, A6⟩ := ze5 a3.out; obtain ⟨A7, A8, A9, B0, B1, B2, B3, B4, B5, B6⟩ := ze5 d8.out) | ((with_reducible refine gate_builtin (b := .append) (xs := #[.tmp 31, .tmp 33]) rfl ?_); at_builtin; refine Kd.S_append k29 (w0 := w) w.heap.size rfl (.tmp 31) (.tmp 33) 27 29 (.agg #[(.int .i64 0), (.int .i64 0), (.string ⟨#[]⟩), (.slice none 0 0), (.slice none 0 0)]) 80 rfl Try.underlying27 info29 rfl (by decide) (by omega) d3 d9 (⟨c4, d2, d4, c5, b9⟩ : S29) [.int .i64 c4, .int .i64 d2, .string d4, .slice e0 c5.length e1, .slice d5 b9.length d6] (fun k_ => some k_ ≠ (.slice b7 b2.length b8 : Value).ownBlock ∧ k_ ≠ a8 ∧ k_ ≠ b3 ∧ k_ ≠ a1 ∧ k_ ≠ b1) (fun k_ => (((fun k_ => some k_ ≠ (.slice b7 b2.length b8 : Value).ownBlock ∧ k_ ≠ a8 ∧ k_ ≠ b3 ∧ k_ ≠ a1 ∧ k_ ≠ b1)) k_ ∧ some k_ ≠ (d3 : Value).ownBlock) ∧ f5 k_) rfl rfl ?aP (fun k_ hk_ => hk_.1) ?aF ?aO ?aB ?aS ?aL ?_; (case aP => exact k29_mkM _ _ _ (⟨c4, d2, d4, c5, b9⟩ : S29) (Kd.S_mono (ok' := fun k_ => ((fun k_ => (((fun k_ => some k_ ≠ (.slice b7 b2.length b8 : Value).ownBlock ∧ k_ ≠ a8 ∧ k_ ≠ b3 ∧ k_ ≠ a1 ∧ k_ ≠ b1)) k_ ∧ some k_ ≠ (d3 : Value).ownBlock) ∧ f5 k_)) k_ ∧ some k_ ≠ (.slice d5 b9.length d6 : Value).ownBlock) (e5.out) (fun k_ hk => ⟨⟨⟨⟨hk.2.1, ⟨hk.2.2.2.1, ⟨hk.2.2.2.2.1, ⟨hk.2.2.2.2.2.1, hk.2.2.2.2.2.2.1⟩⟩⟩⟩, hk.1⟩, hk.2.2.2.2.2.2.2⟩, hk.2.2.1⟩)) (Kd.R_mono (ok' := (fun k_ => (((fun k_ => some k_ ≠ (.slice b7 b2.length b8 : Value).ownBlock ∧ k_ ≠ a8 ∧ k_ ≠ b3 ∧ k_ ≠ a1 ∧ k_ ≠ b1)) k_ ∧ some k_ ≠ (d3 : Value).ownBlock) ∧ f5 k_)) (Kd.R_types (Kd.R_types (Kd.R_types (Kd.R_types (Kd.R_apart' (e6.out) (Kd.S_typed b6.out) (by decide)) a0.out (by decide)) a2.out (by decide)) a3.out (by decide)) d8.out (by decide)) (fun k_ hk => ⟨⟨⟨hk.1.1.1.1.1.1, ⟨hk.1.1.1.2, ⟨hk.1.1.2, ⟨hk.1.2, hk.2⟩⟩⟩⟩, hk.1.1.1.1.2⟩, hk.1.1.1.1.1.2⟩))); (case aB => exact (zW HB.out)); (case aF => exact (fun k_ hk => ⟨Kd.fresh' (Kd.R_lt (zR d1.out)) k_ hk, Kd.freshB (zK a0.out) k_ hk, Kd.freshB (zK a2.out) k_ hk, Kd.freshB (zK a3.out) k_ hk, Kd.freshB (zK d8.out) k_ hk⟩)); (case aO => exact (by (with_reducible repeat (first | apply Kd.S_alloc | apply Kd.S_drewN | apply Kd.S_drew)); exact Kd.S_mono b6.out (fun k_ hk => ⟨⟨hk.1, ⟨hk.2.2.2.1, ⟨hk.2.2.2.2.1, ⟨hk.2.2.2.2.2.1, hk.2.2.2.2.2.2.1⟩⟩⟩⟩, fun e_ => hk.2.2.2.2.2.2.2 e_.2⟩))); (case aS => exact (below_size (zW HB.out))); (case aL => have := m2.out; omega); intro B7 B8 ho hb hg hat; rw [← m3.out] at ho; replace d1 := zA (Kd.R_over' (zR d1.out) (Kd.S_typed (by (with_reducible repeat (first | apply Kd.S_alloc | apply Kd.S_drewN | apply Kd.S_drew)); exact b6.out)) (by decide) hg); replace a0 := zA (blk_grown (g := a8) (o := .cells #[.int .i64 a4, .int .i64 a6, .string a7, .slice (some k5) a9.length c0, .slice c1 b0.length c3] 29 (0, 0)) (zK a0.out) hg (Kd.S_away b6.out (fun _ hk => hk.2.2.2.1))); replace a2 := zA (blk_grown (g := b3) (o := .cells #[.int .i64 0, .int .i64 0, .string (⟨#[]⟩ : ByteArray), .slice none 0 0, .slice none 0 0] 29 (0, 0)) (zK a2.out) hg (Kd.S_away b6.out (fun _ hk => hk.2.2.2.2.1))); replace a3 := zA (blk_grown (g := a1) (o := .cells #[.int .i64 a4, .int .i64 a6, .string a7, d3, .slice b7 b2.length b8] 29 (0, 0)) (zK a3.out) hg (Kd.S_away b6.out (fun _ hk => hk.2.2.2.2.2.1))); replace d8 := zA (blk_grown (g := b1) (o := .cells #[.int .i64 c4, .int .i64 d2, .string d4, .slice e0 c5.length e1, .slice d5 b9.length d6] 29 (0, 0)) (zK d8.out) hg (Kd.S_away b6.out (fun _ hk => hk.2.2.2.2.2.2.1))); replace HB := zA (hb); have l6 := zA (ho); clear b6 e5 e6; clear ho hb hg hat; obtain ⟨i2, i3, o2⟩ := Kd.S_slice l6.out; subst o2; obtain ⟨B9, C0, C1, C2, C3, C4, C5, C6, C7, C8⟩ := ze5 a3.out))
    go_roundg k1
    case measure => have := h7.out; omega
    case rel => exact ⟨(wrap64 (b4 + 1)), (f9), (.slice i2 f9.length i3), zS, H', ⟨by have := h7.out; omega⟩, ⟨by (with_reducible repeat (first | apply Kd.S_alloc | apply Kd.S_drewN | apply Kd.S_drew)); exact Kd.S_mono (Kd.S_far (p := ⟨a1, 3, none⟩) (Kd.S_mono l6.out (fun k_ hk => (⟨hk, hk.2.2.2.1⟩ : _ ∧ k_ ≠ a1))) (fun _ hk => hk.2) (.slice i2 f9.length i3)) (fun _ hk => ⟨hk.1.1, ⟨hk.1.2.1, ⟨hk.1.2.2.1, hk.1.2.2.2.1⟩⟩⟩)⟩, ⟨zR (Kd.R_mono (Kd.R_far (p := ⟨a1, 3, none⟩) (Kd.R_types d1.out a3.out (by decide)) (fun _ hk => hk.2) (.slice i2 f9.length i3)) (fun _ hk => trivial))⟩, ⟨zK a0.out⟩, ⟨zK a2.out⟩, ⟨by (with_reducible repeat (first | refine blk_drewN ?_ _ | refine blk_drew ?_ | refine blk_alloc ?_ _)); refine blk_put (cs := #[.int .i64 a4, .int .i64 a6, .string a7, d3, .slice b7 b2.length b8]) ?_ 3 _ rfl; (with_reducible repeat (first | refine blk_drewN ?_ _ | refine blk_drew ?_ | refine blk_alloc ?_ _)); exact a3.out⟩, ⟨zW HB.out⟩⟩
   simp only [zU] at H; obtain ⟨rfl, rfl, rfl, rfl, rfl⟩ := H; have C9 := i7.out; have D0 := i8.out; have D1 := a5.out; have D2 := c8.out; obtain ⟨D3, D4, D5, D6, D7, D8, D9, E0, E1, E2⟩ := ze5 a0.out; have E3 := d0.out; have E4 := c9.out; obtain ⟨E5, E6, E7, E8, E9, F0, F1, F2, F3, F4⟩ := ze5 a3.out; obtain ⟨F5, F6, F7, F8, F9, G0, G1, G2, G3, G4⟩ := ze5 a2.out; obtain ⟨i4, i5, o3⟩ := Kd.S_slice b6.out; subst o3
   go_wp2
   refine bodyPost_ret (results_cell_row rfl _ _ b3 29 #[.int .i64 a4, .int .i64 a6, .string a7, .slice i4 d9.length i5, .slice b7 b2.length b8] (0, 0) _ rfl (by (with_reducible repeat (first | refine blk_drewN ?_ _ | refine blk_drew ?_ | refine blk_alloc ?_ _)); refine blk_put (cs := #[.int .i64 a4, .int .i64 a6, .string a7, .slice i4 d9.length i5, .slice none 0 0]) ?_ 4 _ rfl; (with_reducible repeat (first | refine blk_drewN ?_ _ | refine blk_drew ?_ | refine blk_alloc ?_ _)); refine blk_put (cs := #[.int .i64 a4, .int .i64 a6, .string a7, .slice none 0 0, .slice none 0 0]) ?_ 3 _ rfl; (with_reducible repeat (first | refine blk_drewN ?_ _ | refine blk_drew ?_ | refine blk_alloc ?_ _)); refine blk_put (cs := #[.int .i64 a4, .int .i64 a6, .string (⟨#[]⟩ : ByteArray), .slice none 0 0, .slice none 0 0]) ?_ 2 _ rfl; (with_reducible repeat (first | refine blk_drewN ?_ _ | refine blk_drew ?_ | refine blk_alloc ?_ _)); refine blk_put (cs := #[.int .i64 a4, .int .i64 0, .string (⟨#[]⟩ : ByteArray), .slice none 0 0, .slice none 0 0]) ?_ 1 _ rfl; (with_reducible repeat (first | refine blk_drewN ?_ _ | refine blk_drew ?_ | refine blk_alloc ?_ _)); refine blk_put (cs := #[.int .i64 0, .int .i64 0, .string (⟨#[]⟩ : ByteArray), .slice none 0 0, .slice none 0 0]) ?_ 0 _ rfl; (with_reducible repeat (first | refine blk_drewN ?_ _ | refine blk_drew ?_ | refine blk_alloc ?_ _)); exact a2.out) Try.underlying29 rfl (by kernel_rfl)) rfl ?_
   exact ⟨_, _, zE, by (with_reducible repeat (first | apply Kd.S_alloc | apply Kd.S_drewN | apply Kd.S_drew)); exact Kd.S_mono (Kd.S_far (p := ⟨b3, 4, none⟩) (Kd.S_far (p := ⟨b3, 3, none⟩) (Kd.S_far (p := ⟨b3, 2, none⟩) (Kd.S_far (p := ⟨b3, 1, none⟩) (Kd.S_far (p := ⟨b3, 0, none⟩) (Kd.S_mono b6.out (fun k_ hk => (⟨hk, hk.2.2.1⟩ : _ ∧ k_ ≠ b3))) (fun _ hk => hk.2) (.int .i64 a4)) (fun _ hk => hk.2) (.int .i64 a6)) (fun _ hk => hk.2) (.string a7)) (fun _ hk => hk.2) (.slice i4 d9.length i5)) (fun _ hk => hk.2) (.slice b7 b2.length b8)) (fun _ hk => hk.1.1), zR (Kd.R_mono (zr5 d1.out a2.out) (fun _ hk => trivial)), zW HB.out⟩
/-! ### spec_AtKey: function 7 -/
mutual
def spec_AtKey.l0 : Nat → ByteArray → Int → Int → Int → ByteArray → List (S29) → List ByteArray → Option (Int × Int × ByteArray × (List (S29)) × List ByteArray × Bool)
 | 0, _, _, _, _, _, _, _ => none
 | k + 1, x1, x6, a2, a3, a4, a0, a1 => if x6 < (a1.length : Int) then (if x6 < (a0.length : Int) then (spec_AtKey.j1 k x1 x6 (a2 == 5) a2 a3 a4 a0 a1) else (spec_AtKey.j1 k x1 x6 false a2 a3 a4 a0 a1)) else (spec_AtKey.j1 k x1 x6 false a2 a3 a4 a0 a1)
def spec_AtKey.j1 : Nat → ByteArray → Int → Bool → Int → Int → ByteArray → List (S29) → List ByteArray → Option (Int × Int × ByteArray × (List (S29)) × List ByteArray × Bool)
 | 0, _, _, _, _, _, _, _, _ => none
 | k + 1, x1, x6, a6, a2, a3, a4, a0, a1 => if a6 = true then (if 0 ≤ x6 then (if x6 < (a1.length : Int) then (if (rdOf ByteArray.empty a1 x6).toList = x1.toList then (if x6 < (a0.length : Int) then ((spec_l2Copy.f k ((rd_T29 a0 x6).f0) ((rd_T29 a0 x6).f1) ((rd_T29 a0 x6).f2) ((rd_T29 a0 x6).f3) ((rd_T29 a0 x6).f4)).bind fun a5 => (some (a5.1, a5.2.1, a5.2.2.1, a5.2.2.2.1, a5.2.2.2.2, true))) else (none)) else (spec_AtKey.l0 k x1 (wrap64 (x6 + 1)) a2 a3 a4 a0 a1)) else (none)) else (none)) else (some (0, 0, (⟨#[]⟩ : ByteArray), ([] : List (S29)), ([] : List ByteArray), false))
end
def spec_AtKey.f (k : Nat) (a0 a2 : Int) (a3 : ByteArray) (a4 : List (S29)) (a5 : List ByteArray) (a1 : ByteArray) : Option (Int × Int × ByteArray × (List (S29)) × List ByteArray × Bool) := spec_AtKey.l0 k a1 0 a0 a2 a3 a4 a5
theorem spec_AtKey.calls (k : Nat) (a7 a8 : Int) (a9 : ByteArray) (c2 : Option Addr) (b4 : Nat) (a2 : List (S29)) (c3 : Option Addr) (b5 : Nat) (a5 : List ByteArray) (a1 : ByteArray) (r1 r2 : Int) (r3 : ByteArray) (r4 : List (S29)) (r5 : List ByteArray) (r6 : Bool) (w : World) (e2 : Kd.C k29 w c2 a2.length a2) (e3 : a2.length ≤ b4) (e4 : Kd.C Kd.string w c3 a5.length a5) (e5 : a5.length ≤ b5) (h : spec_AtKey.f k a7 a8 a9 a2 a5 a1 = some (r1, r2, r3, r4, r5, r6)) :
  Calls Try.prog 7 #[.agg #[.int .i64 a7, .int .i64 a8, .string a9, .slice c2 a2.length b4, .slice c3 a5.length b5], .string a1] w fun e w' => ∃ e6 c9 : Value, e = .returned (.tuple #[.agg #[.int .i64 r1, .int .i64 r2, .string r3, e6, c9], .bool r6]) ∧ Kd.S k29 29 w' w.heap.size (fun k_ => some k_ ≠ (c9 : Value).ownBlock) e6 r4 ∧ Kd.R Kd.string 9 w' w.heap.size (fun _ => True) c9 r5 ∧ Below w.heap.size w w' := by
 have m5 := Try.underlying29
 have h5 := zA e2
 have m6 := zA e3
 clear e2 e3
 have e7 := zA e4
 have m7 := zA e5
 clear e4 e5
 have HB := zA (Below.refl w.heap.size w)
 unfold spec_AtKey.f at h
 have H := h
 clear h
 have H' := zA H
 clear H
 go_enter Try.func7, Try.ntmps7
 go_wp2_with (first | ((with_reducible refine gate_dst (N := 2) rfl ?_); (try (refine gate_guard (by rfl) ?_; dsimp only)); refine box_event ?hg (N := 2) ?hd (cs := #[.int .i64 a7, .int .i64 a8, .string a9, .slice c2 a2.length b4, .slice c3 a5.length b5]) (t := 29) ?hr ?_; (case hd => rfl); (case hg => rfl); (case hr => first | (go_simp; done) | (go_simp; rfl)); intro d0 hg w3 hbox hb; have a3 := zA (hbox); have m8 := zi HB hg; have m9 := zi HB hg; replace HB := zA (below_step (zB) hb); clear hb hbox hg) | ((with_reducible refine gate_dst (N := 4) rfl ?_); (try (refine gate_guard (by rfl) ?_; dsimp only)); refine box_event ?hg (N := 4) ?hd (cs := #[.int .i64 0, .int .i64 0, .string (⟨#[]⟩ : ByteArray), .slice none 0 0, .slice none 0 0]) (t := 29) ?hr ?_; (case hd => rfl); (case hg => rfl); (case hr => first | (go_simp; done) | (go_simp; rfl)); intro a6 hg w4 hbox hb; have a4 := zA (hbox); have n0 := zi HB hg; have n1 := zi HB hg; replace HB := zh HB hb; have b6 := zA (zL hg (zK a3.out)); have b7 := zA (zJ hg (zK a3.out)); replace a3 := zb a3 hb; clear hb hbox hg))
 go_loopg [6] k (fun kq v6 w' => ∃ (a0 : Int) (b8 : Int) (b1 : Int) (b0 : ByteArray), v6 = .int .i64 a0 ∧ Aside0 (spec_AtKey.l0 kq a1 a0 a7 a8 a9 a2 a5 = some (r1, r2, r3, r4, r5, r6)) ∧ Aside0 (kq ≤ k) ∧ Aside0 (w'.heap[d0]? = some (.cells #[.int .i64 a7, .int .i64 a8, .string a9, (.slice c2 a2.length b4), (.slice c3 a5.length b5)] 29 (0, 0))) ∧ Aside0 (w'.heap[a6]? = some (.cells #[.int .i64 b8, .int .i64 b1, .string b0, (.slice none 0 0), (.slice none 0 0)] 29 (0, 0))) ∧ Aside0 (Below w.heap.size w w'))
 case atStart => exact ⟨(0), (0), (0), ((⟨#[]⟩ : ByteArray)), zS, H', ⟨Nat.le_refl _⟩, ⟨zK a3.out⟩, ⟨zK a4.out⟩, ⟨zW HB.out⟩⟩
 case round =>
  clear H'
  try clear p2
  obtain ⟨a0, b8, b1, b0, rfl, HA, c4, a3, a4, HB⟩ := hrel
  cases gk with
  | zero => exact absurd HA.out (by simp [spec_AtKey.l0])
  | succ k1 =>
   have H := HA.out; clear HA; simp only [spec_AtKey.l0] at H; have d1 := zA H; clear H
   go_upto_region 2 with (fail)
   go_cut [23] (fun h6 wc => ∃ (kq : Nat) (d2 : Bool), h6 = .bool d2 ∧ Aside0 (spec_AtKey.j1 kq a1 a0 d2 a7 a8 a9 a2 a5 = some (r1, r2, r3, r4, r5, r6)) ∧ Aside0 (kq ≤ k1) ∧ Aside0 (wc.heap[d0]? = some (.cells #[.int .i64 a7, .int .i64 a8, .string a9, (.slice c2 a2.length b4), (.slice c3 a5.length b5)] 29 (0, 0))) ∧ Aside0 (wc.heap[a6]? = some (.cells #[.int .i64 b8, .int .i64 b1, .string b0, (.slice none 0 0), (.slice none 0 0)] 29 (0, 0))) ∧ Aside0 (Below w.heap.size w wc))
   case first =>
    have H := d1.out; clear d1; replace H := zI0 H
    rcases H with ⟨b9, H⟩ | ⟨b9, H⟩
    ·(first | rw [b9] | (simp only [i64_w, i32_w]; rw [b9]) | skip)
     replace H := zI0 H
     rcases H with ⟨e8, H⟩ | ⟨e8, H⟩
     ·have H' := zA H; clear H; have n2 := b6.out; have n3 := b7.out; obtain ⟨h7, h8, h9, i0, i1, i2, i3, i4, i5, i6⟩ := ze5 a3.out
      go_wp2
      go_meet
      case rel => exact ⟨_, ((a7 == 5)), zS, (by first | exact H' | (subst_vars; exact H')), ⟨by have := c4.out; first | omega | exact Nat.le_refl _⟩, ⟨zK a3.out⟩, ⟨zK a4.out⟩, ⟨zW HB.out⟩⟩
     have H' := zA H; clear H; have n4 := b6.out; have n5 := b7.out; obtain ⟨i7, i8, i9, j0, j2, j3, j4, j5, j6, j7⟩ := ze5 a3.out
     go_wp2
     go_meet
     case rel => exact ⟨_, (false), zS, (by first | exact H' | (subst_vars; exact H')), ⟨by have := c4.out; first | omega | exact Nat.le_refl _⟩, ⟨zK a3.out⟩, ⟨zK a4.out⟩, ⟨zW HB.out⟩⟩
    (first | rw [b9] | (simp only [i64_w, i32_w]; rw [b9]) | skip)
    have H' := zA H; clear H; have n6 := b6.out; have n7 := b7.out; obtain ⟨j8, j9, k0, k2, k3, k4, k5, k6, k7, k8⟩ := ze5 a3.out
    go_wp2
    go_meet
    case rel => exact ⟨_, (false), zS, (by first | exact H' | (subst_vars; exact H')), ⟨by have := c4.out; first | omega | exact Nat.le_refl _⟩, ⟨zK a3.out⟩, ⟨zK a4.out⟩, ⟨zW HB.out⟩⟩
   case rest =>
    clear d1
    try clear c1
    try clear p2
    try clear c6
    try clear b9
    try clear c7
    try clear e8
    try clear c8
    try clear c10
    try clear c12
    try clear i7 i8 i9 j0 j2 j3 j4 j5 j6 j7
    try clear j8 j9 k0 k2 k3 k4 k5 k6 k7 k8
    try clear h7 h8 h9 i0 i1 i2 i3 i4 i5 i6
    try clear p2
    obtain ⟨kq, d2, rfl, HA, e9, a3, a4, HB⟩ := hcut
    cases kq with
    | zero => exact absurd HA.out (by simp [spec_AtKey.j1])
    | succ f5 =>
     have H := HA.out; clear HA; simp only [spec_AtKey.j1] at H; replace H := zB0 H
     rcases H with ⟨rfl, H⟩ | ⟨rfl, H⟩
     ·replace H := zD0 H; obtain ⟨n8, H⟩ := H; replace H := zD0 H; obtain ⟨n9, H⟩ := H; replace H := zI1 H
      rcases H with ⟨c0, H⟩ | ⟨c0, H⟩
      ·have k9 := beq_iff_eq.mpr c0; have l1 := bne_eq_false_iff_eq.mpr c0; clear c0; replace H := zD0 H; obtain ⟨o0, H⟩ := H; replace H := Option.bind_eq_some_iff.mp H; obtain ⟨⟨d3, d4, d5, d6, d7⟩, f6, H⟩ := H
       try dsimp only at H
       have l2 := zA f6; clear f6; simp only [zU] at H; obtain ⟨rfl, rfl, rfl, rfl, rfl, rfl⟩ := H; have o1 := b6.out; have o2 := b7.out; obtain ⟨o3, o4, o5, o6, o7, o8, o9, p0, p1, p3⟩ := ze5 a3.out; have b2 : 0 ≤ (a0 : Int) := zD; have b3 : a0 < (a5.length : Int) := zD; obtain ⟨f7, d8, c5⟩ := Kd.at_string e7.out a0 b2 b3; cases d8; replace c5 := zx HB c5; replace b2 := eq_true b2; replace b3 := eq_true b3; have d9 : 0 ≤ (a0 : Int) := zD; have e0 : a0 < (a2.length : Int) := zD; obtain ⟨l3, l4, l5, l6, l7, l8, f8, f9, g0, g1, g2, g3, g4, g5, g6⟩ := at_T29 h5.out a0 d9 e0; cases l8; replace f8 := zx HB f8; replace f9 := zx HB f9; replace g0 := zx HB g0; replace g1 := zx HB g1; replace g2 := zx HB g2; have l9 := zA g4; have m0 := zA g3; clear g4 g3; have m1 := zA g6; have m2 := zA g5; clear g6 g5; replace d9 := eq_true d9; replace e0 := eq_true e0
       go_wp2_with (first | ((with_reducible refine zq 28 ?_); refine zg (some 38) Try.func28 #[.agg #[.int .i64 ((rd_T29 a2 a0).f0), .int .i64 ((rd_T29 a2 a0).f1), .string ((rd_T29 a2 a0).f2), .slice l4 ((rd_T29 a2 a0).f3).length l5, .slice l6 ((rd_T29 a2 a0).f4).length l7]] ?_; (with_reducible refine (spec_l2Copy.calls f5 ((rd_T29 a2 a0).f0) ((rd_T29 a2 a0).f1) ((rd_T29 a2 a0).f2) _ _ ((rd_T29 a2 a0).f3) _ _ ((rd_T29 a2 a0).f4) d3 d4 d5 d6 d7 _ ?s1 ?s2 ?s3 ?s4 l2.out).mono ?_); (case s1 => exact zC (Kd.C_below l9.out HB.out)); (case s2 => exact m0.out); (case s3 => exact zC (Kd.C_below m1.out HB.out)); (case s4 => exact m2.out); rintro e p4 ⟨p5, p6, rfl, g7, g8, hb⟩; refine ⟨_, rfl, ?_⟩; obtain ⟨p7, e1⟩ := Deep.named hb; have g9 := zA (Kd.S_lower (Kd.S_newB (Kd.S_newB (Deep.S_newT e1 g7) (g := d0) (o := .cells #[.int .i64 a7, .int .i64 a8, .string a9, .slice (some l3) a2.length b4, .slice (some f7) a5.length b5] 29 (0, 0)) (zK a3.out)) (g := a6) (o := .cells #[.int .i64 b8, .int .i64 b1, .string b0, .slice none 0 0, .slice none 0 0] 29 (0, 0)) (zK a4.out)) (below_size (zW HB.out))); have h0 := zA (Kd.R_lower (Deep.R_newT e1 g8) (below_size (zW HB.out))); replace a3 := zb a3 hb; replace a4 := zb a4 hb; replace HB := zh HB hb; clear e1; (try clear hb g7 g8); obtain ⟨p8, p9, q0, q1, q2, q3, q4, q5, q6, q7⟩ := ze5 a4.out; obtain ⟨h1, h2, m3⟩ := Kd.S_slice g9.out; subst m3; obtain ⟨h3, h4, m4⟩ := Kd.R_slice h0.out; subst m4))
       refine bodyPost_ret (results_ct rfl _ _ a6 29 #[.int .i64 d3, .int .i64 d4, .string d5, .slice h1 d6.length h2, .slice h3 d7.length h4] (0, 0) _ rfl (zk5 a4.out) Try.underlying29 rfl (by kernel_rfl)) rfl ?_
       exact ⟨_, _, zE, by (with_reducible repeat (first | apply Kd.S_alloc | apply Kd.S_drewN | apply Kd.S_drew)); exact Kd.S_mono (Kd.S_far (p := ⟨a6, 4, none⟩) (Kd.S_far (p := ⟨a6, 3, none⟩) (Kd.S_far (p := ⟨a6, 2, none⟩) (Kd.S_far (p := ⟨a6, 1, none⟩) (Kd.S_far (p := ⟨a6, 0, none⟩) (Kd.S_mono g9.out (fun k_ hk => (⟨hk, hk.2⟩ : _ ∧ k_ ≠ a6))) (fun _ hk => hk.2) (.int .i64 d3)) (fun _ hk => hk.2) (.int .i64 d4)) (fun _ hk => hk.2) (.string d5)) (fun _ hk => hk.2) (.slice h1 d6.length h2)) (fun _ hk => hk.2) (.slice h3 d7.length h4)) (fun _ hk => hk.1.1.1.1), zR (Kd.R_mono (zr5 h0.out a4.out) (fun _ hk => trivial)), zW HB.out⟩
      have k9 := beq_eq_false_iff_ne.mpr c0; have l1 := bne_iff_ne.mpr c0; have H' := zA H; clear H; have q8 := b6.out; have q9 := b7.out; obtain ⟨r0, r7, r8, r9, t0, t1, t2, t3, t4, t5⟩ := ze5 a3.out; have b2 : 0 ≤ (a0 : Int) := zD; have b3 : a0 < (a5.length : Int) := zD; obtain ⟨f7, d8, c5⟩ := Kd.at_string e7.out a0 b2 b3; cases d8; replace c5 := zx HB c5; replace b2 := eq_true b2; replace b3 := eq_true b3
      go_wp2
      go_roundg f5
      case measure => have := c4.out; have := e9.out; omega
      case rel => exact ⟨(wrap64 (a0 + 1)), (b8), (b1), (b0), zS, H', ⟨by have := c4.out; have := e9.out; omega⟩, ⟨zK a3.out⟩, ⟨zK a4.out⟩, ⟨zW HB.out⟩⟩
     simp only [zU] at H; obtain ⟨rfl, rfl, rfl, rfl, rfl, rfl⟩ := H; have t6 := b7.out; have t7 := b6.out; obtain ⟨t8, t9, v0, v1, v2, v3, v4, v5, v7, v8⟩ := ze5 a4.out
     go_wp2
     refine bodyPost_ret (results_ct rfl _ _ a6 29 #[.int .i64 0, .int .i64 0, .string (⟨#[]⟩ : ByteArray), .slice none 0 0, .slice none 0 0] (0, 0) _ rfl (by (with_reducible repeat (first | refine blk_drewN ?_ _ | refine blk_drew ?_ | refine blk_alloc ?_ _)); refine blk_put (cs := #[.int .i64 0, .int .i64 0, .string (⟨#[]⟩ : ByteArray), .slice none 0 0, .slice none 0 0]) ?_ 4 _ rfl; (with_reducible repeat (first | refine blk_drewN ?_ _ | refine blk_drew ?_ | refine blk_alloc ?_ _)); refine blk_put (cs := #[.int .i64 0, .int .i64 0, .string (⟨#[]⟩ : ByteArray), .slice none 0 0, .slice none 0 0]) ?_ 3 _ rfl; (with_reducible repeat (first | refine blk_drewN ?_ _ | refine blk_drew ?_ | refine blk_alloc ?_ _)); refine blk_put (cs := #[.int .i64 0, .int .i64 0, .string b0, .slice none 0 0, .slice none 0 0]) ?_ 2 _ rfl; (with_reducible repeat (first | refine blk_drewN ?_ _ | refine blk_drew ?_ | refine blk_alloc ?_ _)); refine blk_put (cs := #[.int .i64 0, .int .i64 b1, .string b0, .slice none 0 0, .slice none 0 0]) ?_ 1 _ rfl; (with_reducible repeat (first | refine blk_drewN ?_ _ | refine blk_drew ?_ | refine blk_alloc ?_ _)); refine blk_put (cs := #[.int .i64 b8, .int .i64 b1, .string b0, .slice none 0 0, .slice none 0 0]) ?_ 0 _ rfl; (with_reducible repeat (first | refine blk_drewN ?_ _ | refine blk_drew ?_ | refine blk_alloc ?_ _)); exact a4.out) Try.underlying29 rfl (by kernel_rfl)) rfl ?_
     exact ⟨_, _, zE, by first | exact Kd.S_nil _ _ _ _ _ | exact Kd.N_nil _ _ _ _ _ | exact Kd.V_nil _ _ _ _ _ | exact Kd.Q_nil _ _ _ _ _ | exact Kd.R_nil _ _ _ _ _, by first | exact Kd.R_nil _ _ _ _ _ | exact Kd.N_nil _ _ _ _ _ | exact Kd.V_nil _ _ _ _ _ | exact Kd.Q_nil _ _ _ _ _ | exact Kd.S_nil _ _ _ _ _, zW HB.out⟩
/-! ### laws_toStringS: function 30 -/
def laws_toStringS.l0 : Nat → List ByteArray → List ByteArray → Int → Option (List ByteArray)
 | 0, _, _, _ => none
 | k + 1, x0, x3, x4 => if x4 < (x0.length : Int) then (if 0 ≤ x4 then (if x4 < (x3.length : Int) then (laws_toStringS.l0 k x0 (x3.set (x4 : Int).toNat (rdOf ByteArray.empty x0 x4)) (wrap64 (x4 + 1))) else (none)) else (none)) else (some x3)
def laws_toStringS.f (k : Nat) (l0 : List ByteArray) : Option (List ByteArray) := if 0 ≤ (l0.length : Int) then (if ((l0.length : Int) : Int).toNat ≤ 17592186044416 then (laws_toStringS.l0 k l0 (List.replicate ((l0.length : Int) : Int).toNat (⟨#[]⟩ : ByteArray)) 0) else (none)) else (none)
theorem laws_toStringS.calls (k : Nat) (A0 : Option Addr) (c0 : Nat) (l0 r : List ByteArray) (w : World) (b2 : Kd.C Kd.string w A0 l0.length l0) (b3 : l0.length ≤ c0) (h : laws_toStringS.f k l0 = some r) :
  Calls Try.prog 30 #[.slice A0 l0.length c0] w fun e w' => ∃ b4 : Value, e = .returned (b4) ∧ Kd.R Kd.string 9 w' w.heap.size (fun _ => True) b4 r ∧ Below w.heap.size w w' := by
 have c5 := zA b2
 have d8 := zA b3
 clear b2 b3
 have HB := zA (Below.refl w.heap.size w)
 unfold laws_toStringS.f at h
 have H := h
 clear h
 replace H := zC0 H
 obtain ⟨c2, H⟩ := H
 have c6 := eq_true c2
 have c7 := decide_eq_true c2
 clear c2
 replace H := zC0 H
 obtain ⟨c3, H⟩ := H
 have c8 := eq_true c3
 have c9 := decide_eq_true c3
 clear c3
 obtain ⟨b5, a4⟩ : ∃ y_ : List ByteArray, y_ = (List.replicate ((l0.length : Int) : Int).toNat (⟨#[]⟩ : ByteArray)) := ⟨_, rfl⟩
 replace H : (laws_toStringS.l0 k l0 b5 0) = some r := zY a4 H
 have b6 := zA a4
 clear a4
 have H' := zA H
 clear H
 go_enter Try.func30, Try.ntmps30
 go_wp2_with (first | ((with_reducible refine gate_dst (N := 7) rfl ?_); refine Kd.R_make Kd.string _ 9 rfl (N := 7) rfl 23 _ _ rfl (l0.length : Int) rfl rfl Try.underlying23 (.string ⟨#[]⟩) 16 info9 rfl (by decide) (by omega) (⟨#[]⟩ : ByteArray) (ok := fun _ => True) (okp := fun _ => True) rfl (fun _ hk => hk) trivial (zD) (Nat.le_trans (Nat.mul_le_mul_right _ (zD : (l0.length : Int).toNat ≤ 17592186044416)) (by omega)) (Below.refl _ _) (Nat.le_refl _) ?_; intro d0 w4 a3 hb hg_ hnew_; clear hg_ hnew_; (first | rw [← b6.out] at a3 | (simp only [Int.reduceToNat] at a3; rw [← b6.out] at a3)); have d1 := zA (Kd.R_lower a3 (below_size (zB))); replace HB := zA (below_step (zB) hb); clear hb a3))
 go_loopg [4] k (fun kq v4 w' => ∃ (a1 : List ByteArray) (a0 : Int), v4 = .int .i64 a0 ∧ Aside0 (laws_toStringS.l0 kq l0 a1 a0 = some r) ∧ Aside0 (kq ≤ k) ∧ Aside0 (Kd.R Kd.string 9 w' w.heap.size (fun _ => True) d0 a1) ∧ Aside0 (Below w.heap.size w w'))
 case atStart => exact ⟨(b5), (0), zS, H', ⟨Nat.le_refl _⟩, ⟨zR d1.out⟩, ⟨zB⟩⟩
 case round =>
  clear H'
  try clear c2
  try clear c6
  try clear c7
  try clear p2
  try clear c3
  try clear c8
  try clear c9
  obtain ⟨a1, a0, rfl, HA, b7, a2, HB⟩ := hrel
  cases gk with
  | zero => exact absurd HA.out (by simp [laws_toStringS.l0])
  | succ k1 =>
   have H := HA.out; clear HA; simp only [laws_toStringS.l0] at H; replace H := zI0 H
   rcases H with ⟨d2, H⟩ | ⟨d2, H⟩
   ·replace H := zD0 H; obtain ⟨d9, H⟩ := H; replace H := zD0 H; obtain ⟨e0, H⟩ := H; obtain ⟨a5, a6⟩ : ∃ y_ : List ByteArray, y_ = (a1.set (a0 : Int).toNat (rdOf ByteArray.empty l0 a0)) := ⟨_, rfl⟩; replace H : (laws_toStringS.l0 k1 l0 a5 (wrap64 (a0 + 1))) = some r := zY a6 H; have d3 := zA a6; clear a6; have H' := zA H; clear H; have a7 : 0 ≤ (a0 : Int) := zD; have a8 : a0 < (l0.length : Int) := zD; obtain ⟨e1, d4, b8⟩ := Kd.at_string c5.out a0 a7 a8; cases d4; replace b8 := zx HB b8; replace a7 := eq_true a7; replace a8 := eq_true a8; have p9 : 0 ≤ (a0 : Int) := zD; have q9 : (a0 : Int) < ((a1.length : Int) : Int) := zD; obtain ⟨a9, d5, b9, c1, d6, e2, c4⟩ := Kd.R_form a2.out (by omega)
    (first | cases b9 | (injection b9 with ea_ en_ ec_; (first | subst ea_ | (injection ea_ with ea_; subst ea_)); subst ec_; clear en_))
    have d7 := zA c1; have e3 := zA c4; clear c1 d6 c4; obtain ⟨e4, e5⟩ := Kd.R_celln (⟨#[]⟩ : ByteArray) a2.out (a0 : Int) p9 q9; replace p9 := eq_true p9; replace q9 := eq_true q9; have b0 := Kd.R_putg a2.out (a0 : Int) (rdOf ByteArray.empty l0 a0)
    go_wp2_with (first | ((with_reducible refine gate_store (t := 9) (p := 20) rfl ?_); refine store_event (t := 9) (p := 20) (v := ?vo_w11) (w1 := (wr.setCell ⟨a9, (a0 : Int).toNat, none⟩ (.string (rdOf ByteArray.empty l0 a0)))) ?hg ?ho ?hn ?hr ?_; (case ho => rfl); (case hg => rfl); (case hn => rfl); (case hr => first | (go_simp; done) | (go_simp; rfl)); intro b1 hw; have hg : wr.grownBy b1 (some a9) := (by rw [hw]; exact b0.2); have hp_ : Kd.R Kd.string 9 b1 w.heap.size (fun _ => True) (.slice (some ⟨a9, 0, none⟩) a1.length d5) a5 := (by rw [hw, d3.out]; exact b0.1); clear b0; replace a2 := zA (hp_); replace HB := zA ((by rw [hw]; exact below_set (HB.out) d7.out : Below w.heap.size w b1)); clear hg hw hp_))
    go_roundg k1
    case measure => have := b7.out; omega
    case rel => exact ⟨(a5), (wrap64 (a0 + 1)), zS, H', ⟨by have := b7.out; omega⟩, ⟨zR a2.out⟩, ⟨zB⟩⟩
   obtain rfl := zm H
   go_wp2
   go_ret
   exact ⟨_, zE, zR a2.out, zB⟩
class laws_toVal.Rec where
 f : Nat → Int → Int → ByteArray → List (S25) → List ByteArray → Option (Int × Int × ByteArray × (List (S29)) × List ByteArray)
class laws_toVal.Rec.Ok [laws_toVal.Rec] : Prop where
 calls : ∀ (k : Nat) (a3 : Int) (a4 : Int) (a5 : ByteArray) (a6 : Option Addr) (a7 : Nat) (a0 : List (S25)) (a8 : Option Addr) (a9 : Nat) (a1 : List ByteArray) (r1 : Int) (r2 : Int) (r3 : ByteArray) (r4 : List (S29)) (r5 : List ByteArray) (w : World) (b1 : Kd.C k25 w a6 a0.length a0) (b2 : a0.length ≤ a7) (b3 : Kd.C Kd.string w a8 a1.length a1) (b4 : a1.length ≤ a9) (h : laws_toVal.Rec.f k a3 a4 a5 a0 a1 = some (r1, r2, r3, r4, r5)),
  Calls Try.prog 8 #[.agg #[.int .i64 a3, .int .i64 a4, .string a5, .slice a6 a0.length a7, .slice a8 a1.length a9]] w fun e w' => ∃ b0 a2 : Value, e = .returned (.agg #[.int .i64 r1, .int .i64 r2, .string r3, b0, a2]) ∧ Kd.S k29 29 w' w.heap.size (fun k_ => some k_ ≠ (a2 : Value).ownBlock) b0 r4 ∧ Kd.R Kd.string 9 w' w.heap.size (fun _ => True) a2 r5 ∧ Below w.heap.size w w'
theorem laws_toVal.Rec.calls [laws_toVal.Rec] [o : laws_toVal.Rec.Ok] : ∀ (k : Nat) (a3 a4 : Int) (a5 : ByteArray) (a6 : Option Addr) (a7 : Nat) (a0 : List (S25)) (a8 : Option Addr) (a9 : Nat) (a1 : List ByteArray) (r1 r2 : Int) (r3 : ByteArray) (r4 : List (S29)) (r5 : List ByteArray) (w : World) (b1 : Kd.C k25 w a6 a0.length a0) (b2 : a0.length ≤ a7) (b3 : Kd.C Kd.string w a8 a1.length a1) (b4 : a1.length ≤ a9) (h : laws_toVal.Rec.f k a3 a4 a5 a0 a1 = some (r1, r2, r3, r4, r5)),
  Calls Try.prog 8 #[.agg #[.int .i64 a3, .int .i64 a4, .string a5, .slice a6 a0.length a7, .slice a8 a1.length a9]] w fun e w' => ∃ b0 a2 : Value, e = .returned (.agg #[.int .i64 r1, .int .i64 r2, .string r3, b0, a2]) ∧ Kd.S k29 29 w' w.heap.size (fun k_ => some k_ ≠ (a2 : Value).ownBlock) b0 r4 ∧ Kd.R Kd.string 9 w' w.heap.size (fun _ => True) a2 r5 ∧ Below w.heap.size w w' := o.calls
section
set_option linter.unusedSectionVars false
variable [laws_toVal.Rec] [laws_toVal.Rec.Ok]
/-! ### laws_toValS: function 29 -/
def laws_toValS.l0 : Nat → List (S25) → List (S29) → Int → Option ((List (S29)))
 | 0, _, _, _ => none
 | k + 1, x0, x3, x4 => if x4 < (x0.length : Int) then (if 0 ≤ x4 then ((laws_toVal.Rec.f k ((rd_T25 x0 x4).f0) ((rd_T25 x0 x4).f1) ((rd_T25 x0 x4).f2) ((rd_T25 x0 x4).f3) ((rd_T25 x0 x4).f4)).bind fun a0 => (if x4 < (x3.length : Int) then (laws_toValS.l0 k x0 (x3.set (x4 : Int).toNat (⟨a0.1, a0.2.1, a0.2.2.1, a0.2.2.2.1, a0.2.2.2.2⟩ : S29)) (wrap64 (x4 + 1))) else (none))) else (none)) else (some x3)
def laws_toValS.f (k : Nat) (l0 : List (S25)) : Option ((List (S29))) := if 0 ≤ (l0.length : Int) then (if ((l0.length : Int) : Int).toNat ≤ 3518437208883 then (laws_toValS.l0 k l0 (List.replicate ((l0.length : Int) : Int).toNat z29) 0) else (none)) else (none)
theorem laws_toValS.calls (k : Nat) (A0 : Option Addr) (c0 : Nat) (l0 : List (S25)) (r : List (S29)) (w : World) (d6 : Kd.C k25 w A0 l0.length l0) (d7 : l0.length ≤ c0) (h : laws_toValS.f k l0 = some r) :
  Calls Try.prog 29 #[.slice A0 l0.length c0] w fun e w' => ∃ d8 : Value, e = .returned (d8) ∧ Kd.S k29 29 w' w.heap.size (fun _ => True) d8 r ∧ Below w.heap.size w w' := by
 have k0 := Try.underlying25
 have k2 := Try.underlying29
 have g5 := zA d6
 have k3 := zA d7
 clear d6 d7
 have HB := zA (Below.refl w.heap.size w)
 unfold laws_toValS.f at h
 have H := h
 clear h
 replace H := zC0 H
 obtain ⟨c2, H⟩ := H
 have g6 := eq_true c2
 have g7 := decide_eq_true c2
 clear c2
 replace H := zC0 H
 obtain ⟨c3, H⟩ := H
 have g8 := eq_true c3
 have g9 := decide_eq_true c3
 clear c3
 obtain ⟨d9, b9⟩ : ∃ y_ : List (S29), y_ = (List.replicate ((l0.length : Int) : Int).toNat z29) := ⟨_, rfl⟩
 replace H : (laws_toValS.l0 k l0 d9 0) = some r := zY b9 H
 have e0 := zA b9
 clear b9
 have H' := zA H
 clear H
 go_enter Try.func29, Try.ntmps29
 go_wp2_with (first | ((with_reducible refine gate_dst (N := 7) rfl ?_); refine Kd.S_make k29 _ 29 rfl (N := 7) rfl 27 _ _ rfl (l0.length : Int) rfl rfl Try.underlying27 (.agg #[(.int .i64 0), (.int .i64 0), (.string ⟨#[]⟩), (.slice none 0 0), (.slice none 0 0)]) 80 info29 rfl (by decide) (by omega) z29 (ok := fun _ => True) (okp := fun _ => True) (k29_mkM _ _ _ z29 (Kd.S_nil _ _ _ _ _) (Kd.R_nil _ _ _ _ _)) (fun _ hk => hk) trivial (zD) (Nat.le_trans (Nat.mul_le_mul_right _ (zD : (l0.length : Int).toNat ≤ 3518437208883)) (by omega)) (Below.refl _ _) (Nat.le_refl _) ?_; intro h0 w4 b2 hb hg_ hnew_; clear hg_ hnew_; (first | rw [← e0.out] at b2 | (simp only [Int.reduceToNat] at b2; rw [← e0.out] at b2)); obtain ⟨k4, e1⟩ := Deep.named hb; have h1 := zA (Kd.S_lower (Deep.S_newT e1 b2) (below_size (zB))); replace HB := zA (below_step (zB) hb); clear e1; clear hb b2))
 go_loopg [4] k (fun kq v4 w' => ∃ (a3 : List (S29)) (a0 : Int), v4 = .int .i64 a0 ∧ Aside0 (laws_toValS.l0 kq l0 a3 a0 = some r) ∧ Aside0 (kq ≤ k) ∧ Aside0 (Kd.S k29 29 w' w.heap.size (fun _ => True) h0 a3) ∧ Aside0 (Below w.heap.size w w'))
 case atStart => exact ⟨(d9), (0), zS, H', ⟨Nat.le_refl _⟩, ⟨by (with_reducible repeat (first | apply Kd.S_alloc | apply Kd.S_drewN | apply Kd.S_drew)); exact Kd.S_mono h1.out (fun _ hk => trivial)⟩, ⟨zB⟩⟩
 case round =>
  clear H'
  try clear c2
  try clear g6
  try clear g7
  try clear p2
  try clear c3
  try clear g8
  try clear g9
  obtain ⟨a3, a0, rfl, HA, e2, a2, HB⟩ := hrel
  cases gk with
  | zero => exact absurd HA.out (by simp [laws_toValS.l0])
  | succ k1 =>
   have H := HA.out; clear HA; simp only [laws_toValS.l0] at H; replace H := zI0 H
   rcases H with ⟨h2, H⟩ | ⟨h2, H⟩
   ·replace H := zD0 H; obtain ⟨k5, H⟩ := H; replace H := Option.bind_eq_some_iff.mp H; obtain ⟨⟨a5, a6, a7, b4, b5⟩, e3, H⟩ := H
    try dsimp only at H
    have A9 := zA e3; clear e3; replace H := zD0 H; obtain ⟨k6, H⟩ := H; obtain ⟨c1, c4⟩ : ∃ y_ : List (S29), y_ = (a3.set (a0 : Int).toNat (⟨a5, a6, a7, b4, b5⟩ : S29)) := ⟨_, rfl⟩; replace H : (laws_toValS.l0 k1 l0 c1 (wrap64 (a0 + 1))) = some r := zY c4 H; have h3 := zA c4; clear c4; have H' := zA H; clear H; have c5 : 0 ≤ (a0 : Int) := zD; have c6 : a0 < (l0.length : Int) := zD; obtain ⟨k7, h4, h5, h6, h7, h8, e4, e5, e6, e7, e8, e9, f5, f6, f7⟩ := at_T25 g5.out a0 c5 c6; cases h8; replace e4 := zx HB e4; replace e5 := zx HB e5; replace e6 := zx HB e6; replace e7 := zx HB e7; replace e8 := zx HB e8; have h9 := zA f5; have i0 := zA e9; clear f5 e9; have i1 := zA f7; have i2 := zA f6; clear f7 f6; replace c5 := eq_true c5; replace c6 := eq_true c6
    go_wp2_with (first | ((with_reducible refine zq 8 ?_); refine zg (some 20) Try.func8 #[.agg #[.int .i64 ((rd_T25 l0 a0).f0), .int .i64 ((rd_T25 l0 a0).f1), .string ((rd_T25 l0 a0).f2), .slice h4 ((rd_T25 l0 a0).f3).length h5, .slice h6 ((rd_T25 l0 a0).f4).length h7]] ?_; (with_reducible refine (laws_toVal.Rec.calls k1 ((rd_T25 l0 a0).f0) ((rd_T25 l0 a0).f1) ((rd_T25 l0 a0).f2) _ _ ((rd_T25 l0 a0).f3) _ _ ((rd_T25 l0 a0).f4) a5 a6 a7 b4 b5 _ ?s1 ?s2 ?s3 ?s4 A9.out).mono ?_); (case s1 => exact zC (Kd.C_below h9.out HB.out)); (case s2 => exact i0.out); (case s3 => exact zC (Kd.C_below i1.out HB.out)); (case s4 => exact i2.out); rintro e a4 ⟨c7, b6, rfl, c8, c9, hb⟩; refine ⟨_, rfl, ?_⟩; obtain ⟨b7, b8⟩ := Deep.named hb; have d0 := zA (Kd.S_lower (Kd.S_new' (Deep.S_newT b8 c8) (Kd.S_lt (by (with_reducible repeat (first | apply Kd.S_alloc | apply Kd.S_drewN | apply Kd.S_drew)); exact a2.out))) (below_size (zB))); replace a2 := zA (Deep.S_oldT b8 (Kd.S_told (Kd.S_told (Kd.S_old (by (with_reducible repeat (first | apply Kd.S_alloc | apply Kd.S_drewN | apply Kd.S_drew)); exact a2.out) hb) (Kd.S_base c8)) (Kd.R_base c9))); have d1 := zA (Kd.R_lower (Deep.R_newT b8 c9) (below_size (zB))); replace HB := zA (below_step (zB) hb); clear b8; (try clear hb c8 c9); have d2 : 0 ≤ (a0 : Int) := zD; have d3 : (a0 : Int) < ((a3.length : Int) : Int) := zD; obtain ⟨a1, f8, f9, g0, i3, k8, g1⟩ := Kd.S_form a2.out (by omega); (first | cases f9 | (injection f9 with ea_ en_ ec_; (first | subst ea_ | (injection ea_ with ea_; subst ea_)); subst ec_; clear en_)); have b3 := zA g0; have k9 := zA g1; clear g0 i3 g1; obtain ⟨_, l1, i4, g2, a8, a9, _, _⟩ := Kd.S_elem a2.out z29 (a0 : Int) d2 d3; obtain ⟨i5, i6, rfl, l2, l3⟩ := k29_openM g2; have l4 : a4.cell? ⟨a1, (a0 : Int).toNat * 5, none⟩ = some (.int .i64 ((rd_T29 a3 a0).f0)) := a8 0 _ rfl; have l5 : a4.cell? ⟨a1, (a0 : Int).toNat * 5 + 1, none⟩ = some (.int .i64 ((rd_T29 a3 a0).f1)) := a8 1 _ rfl; have l6 : a4.cell? ⟨a1, (a0 : Int).toNat * 5 + 2, none⟩ = some (.string ((rd_T29 a3 a0).f2)) := a8 2 _ rfl; have l7 : a4.cell? ⟨a1, (a0 : Int).toNat * 5 + 3, none⟩ = some (i5) := a8 3 _ rfl; have l8 : a4.cell? ⟨a1, (a0 : Int).toNat * 5 + 4, none⟩ = some (i6) := a8 4 _ rfl; have l9 : a4.frozen? ⟨a1, (a0 : Int).toNat * 5, none⟩ = false := a9 0; have m0 : a4.frozen? ⟨a1, (a0 : Int).toNat * 5 + 1, none⟩ = false := a9 1; have m1 : a4.frozen? ⟨a1, (a0 : Int).toNat * 5 + 2, none⟩ = false := a9 2; have m2 : a4.frozen? ⟨a1, (a0 : Int).toNat * 5 + 3, none⟩ = false := a9 3; have m3 : a4.frozen? ⟨a1, (a0 : Int).toNat * 5 + 4, none⟩ = false := a9 4; clear i4 a8 a9; (try clear g2); replace d2 := eq_true d2; replace d3 := eq_true d3; have n_ := zA (Kd.S_mono (ok' := (fun k_ => some k_ ≠ (c7 : Value).ownBlock ∧ some k_ ≠ (b6 : Value).ownBlock ∧ ¬ b7 k_)) a2.out (fun k_ hk => ⟨hk.1.1.2, ⟨hk.1.2, hk.2⟩⟩)); clear a2; have a2 := n_; clear n_; have i7 := zA (show Kd.S k29 29 a4 w.heap.size (fun k_ => ((fun _ => True)) k_ ∧ ¬ ((fun k_ => (((fun _ => True)) k_ ∧ k_ ≠ a1) ∧ b7 k_)) k_) (.slice (some ⟨a1, 0, none⟩) a3.length f8) a3 from (by (with_reducible repeat (first | apply Kd.S_alloc | apply Kd.S_drewN | apply Kd.S_drew)); exact Kd.S_mono a2.out (fun k_ hk => ⟨trivial, fun e_ => hk.2.2 e_.2⟩))); obtain ⟨m4, m5, i8, g3, b0, b1, i9, g4⟩ := Kd.S_elem i7.out z29 (a0 : Int) (zD) (by have h_ : (a0 : Int) < ((a3.length : Int) : Int) := zD; first | exact h_ | (have e_ := (Kd.S_reads' a2.out).1; omega) | simpa using h_); obtain ⟨m6, m7, rfl, m8, m9⟩ := k29_openM g3; have d4 := Kd.S_seg g4 (zD) (by have h_ : (a0 : Int) < ((a3.length : Int) : Int) := zD; first | exact h_ | (have e_ := (Kd.S_reads' a2.out).1; omega) | simpa using h_) (seg := [.int .i64 a5, .int .i64 a6, .string a7, c7, b6]) (j := 0) (show 5 ≤ 5 from by decide) (x' := (⟨a5, a6, a7, b4, b5⟩ : S29)) (k29_mkM _ _ _ (⟨a5, a6, a7, b4, b5⟩ : S29) (Kd.S_mono (ok' := fun k_ => ((fun k_ => (((fun _ => True)) k_ ∧ k_ ≠ a1) ∧ b7 k_)) k_ ∧ some k_ ≠ (b6 : Value).ownBlock) (d0.out) (fun k_ hk => ⟨⟨⟨trivial, fun e_ => (hk.2) (by rw [e_]; rfl)⟩, hk.1.2⟩, hk.1.1⟩)) (Kd.R_mono (ok' := (fun k_ => (((fun _ => True)) k_ ∧ k_ ≠ a1) ∧ b7 k_)) (Kd.R_apart' (d1.out) (Kd.S_typed a2.out) (by decide)) (fun k_ hk => ⟨⟨trivial, fun e_ => (hk.2) (by rw [e_]; rfl)⟩, hk.1.2⟩))) (fun _ hk => Or.inr hk) (fun _ hk => hk.1); have j0 := b0 0 _ rfl; (try simp only [show (k29).sz = 5 from rfl, Nat.mul_one, Nat.add_zero] at j0); have j1 := b1 0; (try simp only [show (k29).sz = 5 from rfl, Nat.mul_one, Nat.add_zero] at j1); have j2 := b0 1 _ rfl; (try simp only [show (k29).sz = 5 from rfl, Nat.mul_one, Nat.add_zero] at j2); have j3 := b1 1; (try simp only [show (k29).sz = 5 from rfl, Nat.mul_one, Nat.add_zero] at j3); have j4 := b0 2 _ rfl; (try simp only [show (k29).sz = 5 from rfl, Nat.mul_one, Nat.add_zero] at j4); have j5 := b1 2; (try simp only [show (k29).sz = 5 from rfl, Nat.mul_one, Nat.add_zero] at j5); have j6 := b0 3 _ rfl; (try simp only [show (k29).sz = 5 from rfl, Nat.mul_one, Nat.add_zero] at j6); have j7 := b1 3; (try simp only [show (k29).sz = 5 from rfl, Nat.mul_one, Nat.add_zero] at j7); have j8 := b0 4 _ rfl; (try simp only [show (k29).sz = 5 from rfl, Nat.mul_one, Nat.add_zero] at j8); have j9 := b1 4; (try simp only [show (k29).sz = 5 from rfl, Nat.mul_one, Nat.add_zero] at j9); clear i8 b0 b1; (try clear g3); clear i9 g4) | ((with_reducible refine gate_store (t := 29) (p := 21) rfl ?_); refine store_event (t := 29) (p := 21) (v := ?vo_w15) (w1 := (((((a4.setCell ⟨a1, (a0 : Int).toNat * 5, none⟩ (.int .i64 a5)).setCell ⟨a1, (a0 : Int).toNat * 5 + 1, none⟩ (.int .i64 a6)).setCell ⟨a1, (a0 : Int).toNat * 5 + 2, none⟩ (.string a7)).setCell ⟨a1, (a0 : Int).toNat * 5 + 3, none⟩ (c7)).setCell ⟨a1, (a0 : Int).toNat * 5 + 4, none⟩ (b6))) ?hg ?ho ?hn ?hr ?_; (case ho => rfl); (case hg => rfl); (case hn => rfl); (case hr => first | (go_simp; done) | (go_simp; rfl) | ((try (obtain ⟨_, _, e_⟩ := Kd.S_slice d0.out; subst e_)); (try (obtain ⟨_, _, e_⟩ := Kd.R_slice d1.out; subst e_)); first | (go_simp; done) | (go_simp; rfl))); intro d5 hw; have hg : a4.grownBy d5 (some a1) := (by rw [hw]; exact d4.2); have hp_ : Kd.S k29 29 d5 w.heap.size (fun _ => True) (.slice (some ⟨a1, 0, none⟩) a3.length f8) c1 := (by rw [hw, h3.out]; exact d4.1); clear d4; replace a2 := zA (hp_); replace HB := zA ((by rw [hw]; exact below_set (below_set (below_set (below_set (below_set (HB.out) b3.out) b3.out) b3.out) b3.out) b3.out : Below w.heap.size w d5)); clear d0 d1; clear hg hw hp_))
    go_roundg k1
    case measure => have := e2.out; omega
    case rel => exact ⟨(c1), (wrap64 (a0 + 1)), zS, H', ⟨by have := e2.out; omega⟩, ⟨by (with_reducible repeat (first | apply Kd.S_alloc | apply Kd.S_drewN | apply Kd.S_drew)); exact a2.out⟩, ⟨zB⟩⟩
   obtain rfl := zm H
   go_wp2
   go_ret
   exact ⟨_, zE, by (with_reducible repeat (first | apply Kd.S_alloc | apply Kd.S_drewN | apply Kd.S_drew)); exact a2.out, zB⟩
end
/-! ### laws_toVal: function 8 -/
def laws_toVal.f : Nat → Int → Int → ByteArray → List (S25) → List ByteArray → Option (Int × Int × ByteArray × (List (S29)) × List ByteArray)
 | 0, _, _, _, _, _ => none
 | k + 1, a0, a1, a2, a3, a4 => (@laws_toValS.f ⟨fun _ => laws_toVal.f k⟩ k a3).bind fun a5 => ((laws_toStringS.f k a4).bind fun a6 => (some (a0, a1, a2, a5, a6)))
theorem laws_toVal.calls (k : Nat) : ∀ (a0 a1 : Int) (a3 : ByteArray) (b5 : Option Addr) (b6 : Nat) (a6 : List (S25)) (b7 : Option Addr) (b8 : Nat) (a7 : List ByteArray) (r1 r2 : Int) (r3 : ByteArray) (r4 : List (S29)) (r5 : List ByteArray) (w : World) (c2 : Kd.C k25 w b5 a6.length a6) (c3 : a6.length ≤ b6) (c4 : Kd.C Kd.string w b7 a7.length a7) (c5 : a7.length ≤ b8) (h : laws_toVal.f k a0 a1 a3 a6 a7 = some (r1, r2, r3, r4, r5)),
  Calls Try.prog 8 #[.agg #[.int .i64 a0, .int .i64 a1, .string a3, .slice b5 a6.length b6, .slice b7 a7.length b8]] w fun e w' => ∃ c7 c6 : Value, e = .returned (.agg #[.int .i64 r1, .int .i64 r2, .string r3, c7, c6]) ∧ Kd.S k29 29 w' w.heap.size (fun k_ => some k_ ≠ (c6 : Value).ownBlock) c7 r4 ∧ Kd.R Kd.string 9 w' w.heap.size (fun _ => True) c6 r5 ∧ Below w.heap.size w w' := by
 induction k using Nat.strongRecOn with
 | _ k ih =>
 intro a0 a1 a3 b5 b6 a6 b7 b8 a7 r1 r2 r3 r4 r5 w c2 c3 c4 c5 h
 cases k with
 | zero => exact absurd h (by simp [laws_toVal.f])
 | succ k =>
 simp only [laws_toVal.f] at h
 have e4 := Try.underlying25
 have e5 := Try.underlying29
 have d3 := zA c2
 have d4 := zA c3
 clear c2 c3
 have d5 := zA c4
 have d6 := zA c5
 clear c4 c5
 have HB := zA (Below.refl w.heap.size w)
 have H := h
 clear h
 replace H := Option.bind_eq_some_iff.mp H
 obtain ⟨b0, c8, H⟩ := H
 try dsimp only at H
 have A2 := zA c8
 clear c8
 replace H := Option.bind_eq_some_iff.mp H
 obtain ⟨b1, c9, H⟩ := H
 try dsimp only at H
 have A3 := zA c9
 clear c9
 simp only [zU] at H
 obtain ⟨rfl, rfl, rfl, rfl, rfl⟩ := H
 go_enter Try.func8, Try.ntmps8
 go_wp2_with (first | ((with_reducible refine zd 1 ?_); refine ze 1 25 #[.int .i64 a0, .int .i64 a1, .string a3, .slice b5 a6.length b6, .slice b7 a7.length b8] ?_; intro e6 hg w4 hbox hb; have a2 := zA (hbox); have e7 := zi HB hg; have e8 := zi HB hg; replace HB := zA (below_step (zB) hb); clear hb hbox hg) | ((with_reducible refine zd 2 ?_); refine ze 2 29 #[.int .i64 0, .int .i64 0, .string (⟨#[]⟩ : ByteArray), .slice none 0 0, .slice none 0 0] ?_; intro a4 hg w5 hbox hb; have a5 := zA (hbox); have e9 := zi HB hg; have f0 := zi HB hg; replace HB := zh HB hb; have d7 := zA (zL hg (zK a2.out)); have d8 := zA (zJ hg (zK a2.out)); replace a2 := zb a2 hb; clear hb hbox hg) | ((with_reducible refine zd 3 ?_); refine ze 3 29 #[.int .i64 0, .int .i64 0, .string (⟨#[]⟩ : ByteArray), .slice none 0 0, .slice none 0 0] ?_; intro a9 hg w6 hbox hb; have a8 := zA (hbox); have f1 := zi HB hg; have f2 := zi HB hg; replace HB := zh HB hb; have d9 := zA (zL hg (zK a2.out)); have e0 := zA (zJ hg (zK a2.out)); replace a2 := zb a2 hb; have d0 := zA (zL hg (zK a5.out)); have e1 := zA (zJ hg (zK a5.out)); replace a5 := zb a5 hb; clear hb hbox hg; have f3 := d7.out; have f4 := d8.out; have f5 := d9.out; have f6 := e0.out; obtain ⟨f7, f8, f9, g0, g1, g2, g3, g4, g5, g6⟩ := ze5 a2.out; have g7 := e1.out; have g8 := d0.out; obtain ⟨g9, h0, h1, h2, h3, h4, h5, h6, h7, h8⟩ := ze5 a8.out) | ((with_reducible refine zq 29 ?_); refine zg (some 15) Try.func29 #[.slice b5 a6.length b6] ?_; (refine (@laws_toValS.calls ⟨fun _ => laws_toVal.f k⟩ (@laws_toVal.Rec.Ok.mk ⟨fun _ => laws_toVal.f k⟩ (fun _ => ih k (by omega))) k _ _ a6 b0 _ ?s1 ?s2 A2.out).mono ?_); (case s1 => exact Kd.C_below d3.out (zW HB.out)); (case s2 => exact d4.out); rintro e h9 ⟨i0, rfl, b2, hb⟩; refine ⟨_, rfl, ?_⟩; obtain ⟨i1, d1⟩ := Deep.named hb; have c1 := zA (Kd.S_lower (Kd.S_newB (Kd.S_newB (Deep.S_newT d1 b2) (g := a4) (o := .cells #[.int .i64 0, .int .i64 0, .string (⟨#[]⟩ : ByteArray), .slice none 0 0, .slice none 0 0] 29 (0, 0)) (zK a5.out)) (g := a9) (o := .cells #[.int .i64 a0, .int .i64 a1, .string a3, .slice none 0 0, .slice none 0 0] 29 (0, 0)) (by (with_reducible repeat (first | refine blk_drewN ?_ _ | refine blk_drew ?_ | refine blk_alloc ?_ _)); refine blk_put (cs := #[.int .i64 a0, .int .i64 a1, .string (⟨#[]⟩ : ByteArray), .slice none 0 0, .slice none 0 0]) ?_ 2 _ rfl; (with_reducible repeat (first | refine blk_drewN ?_ _ | refine blk_drew ?_ | refine blk_alloc ?_ _)); refine blk_put (cs := #[.int .i64 a0, .int .i64 0, .string (⟨#[]⟩ : ByteArray), .slice none 0 0, .slice none 0 0]) ?_ 1 _ rfl; (with_reducible repeat (first | refine blk_drewN ?_ _ | refine blk_drew ?_ | refine blk_alloc ?_ _)); refine blk_put (cs := #[.int .i64 0, .int .i64 0, .string (⟨#[]⟩ : ByteArray), .slice none 0 0, .slice none 0 0]) ?_ 0 _ rfl; (with_reducible repeat (first | refine blk_drewN ?_ _ | refine blk_drew ?_ | refine blk_alloc ?_ _)); exact a8.out)) (below_size (zW HB.out))); replace a2 := zb a2 hb; replace a5 := zb a5 hb; replace a8 := zA (blk_below (g := a9) (o := .cells #[.int .i64 a0, .int .i64 a1, .string a3, .slice none 0 0, .slice none 0 0] 29 (0, 0)) (by (with_reducible repeat (first | refine blk_drewN ?_ _ | refine blk_drew ?_ | refine blk_alloc ?_ _)); refine blk_put (cs := #[.int .i64 a0, .int .i64 a1, .string (⟨#[]⟩ : ByteArray), .slice none 0 0, .slice none 0 0]) ?_ 2 _ rfl; (with_reducible repeat (first | refine blk_drewN ?_ _ | refine blk_drew ?_ | refine blk_alloc ?_ _)); refine blk_put (cs := #[.int .i64 a0, .int .i64 0, .string (⟨#[]⟩ : ByteArray), .slice none 0 0, .slice none 0 0]) ?_ 1 _ rfl; (with_reducible repeat (first | refine blk_drewN ?_ _ | refine blk_drew ?_ | refine blk_alloc ?_ _)); refine blk_put (cs := #[.int .i64 0, .int .i64 0, .string (⟨#[]⟩ : ByteArray), .slice none 0 0, .slice none 0 0]) ?_ 0 _ rfl; (with_reducible repeat (first | refine blk_drewN ?_ _ | refine blk_drew ?_ | refine blk_alloc ?_ _)); exact a8.out) hb); replace HB := zh HB hb; clear d1; (try clear hb b2); obtain ⟨b3, b4, e2⟩ := Kd.S_slice c1.out; subst e2; obtain ⟨i2, i3, i4, i5, i6, i7, i8, i9, j0, j1⟩ := ze5 a8.out; obtain ⟨j2, j3, j4, j5, j6, j7, j8, j9, k0, k1⟩ := ze5 a2.out) | ((with_reducible refine zq 30 ?_); refine zg (some 19) Try.func30 #[.slice b7 a7.length b8] ?_; (with_reducible refine (laws_toStringS.calls k _ _ a7 b1 _ ?s1 ?s2 A3.out).mono ?_); (case s1 => exact Kd.C_below d5.out (zW HB.out)); (case s2 => exact d6.out); rintro e k2 ⟨k3, rfl, b2, hb⟩; refine ⟨_, rfl, ?_⟩; replace c1 := zA (Kd.S_elder' (by (with_reducible repeat (first | apply Kd.S_alloc | apply Kd.S_drewN | apply Kd.S_drew)); exact (Kd.S_mono (Kd.S_far (p := ⟨a9, 3, none⟩) (Kd.S_mono c1.out (fun k_ hk => (⟨hk, hk.2⟩ : _ ∧ k_ ≠ a9))) (fun _ hk => hk.2) (.slice b3 b0.length b4)) (fun _ h_ => h_.1))) (Kd.R_base b2) hb); have d2 := zA (Kd.R_lower b2 (below_size (zW HB.out))); replace a2 := zb a2 hb; replace a5 := zb a5 hb; replace a8 := zA (blk_below (g := a9) (o := .cells #[.int .i64 a0, .int .i64 a1, .string a3, .slice b3 b0.length b4, .slice none 0 0] 29 (0, 0)) (by (with_reducible repeat (first | refine blk_drewN ?_ _ | refine blk_drew ?_ | refine blk_alloc ?_ _)); refine blk_put (cs := #[.int .i64 a0, .int .i64 a1, .string a3, .slice none 0 0, .slice none 0 0]) ?_ 3 _ rfl; (with_reducible repeat (first | refine blk_drewN ?_ _ | refine blk_drew ?_ | refine blk_alloc ?_ _)); exact a8.out) hb); replace HB := zh HB hb; (try clear hb b2); obtain ⟨b9, c0, e3⟩ := Kd.R_slice d2.out; subst e3; obtain ⟨k4, k5, k6, k7, k8, k9, l0, l1, l2, l3⟩ := ze5 a8.out; obtain ⟨l4, l5, l6, l7, l8, l9, m0, m1, m2, m3⟩ := ze5 a5.out))
 refine bodyPost_ret (results_cell_row rfl _ _ a4 29 #[.int .i64 a0, .int .i64 a1, .string a3, .slice b3 b0.length b4, .slice b9 b1.length c0] (0, 0) _ rfl (by (with_reducible repeat (first | refine blk_drewN ?_ _ | refine blk_drew ?_ | refine blk_alloc ?_ _)); refine blk_put (cs := #[.int .i64 a0, .int .i64 a1, .string a3, .slice b3 b0.length b4, .slice none 0 0]) ?_ 4 _ rfl; (with_reducible repeat (first | refine blk_drewN ?_ _ | refine blk_drew ?_ | refine blk_alloc ?_ _)); refine blk_put (cs := #[.int .i64 a0, .int .i64 a1, .string a3, .slice none 0 0, .slice none 0 0]) ?_ 3 _ rfl; (with_reducible repeat (first | refine blk_drewN ?_ _ | refine blk_drew ?_ | refine blk_alloc ?_ _)); refine blk_put (cs := #[.int .i64 a0, .int .i64 a1, .string (⟨#[]⟩ : ByteArray), .slice none 0 0, .slice none 0 0]) ?_ 2 _ rfl; (with_reducible repeat (first | refine blk_drewN ?_ _ | refine blk_drew ?_ | refine blk_alloc ?_ _)); refine blk_put (cs := #[.int .i64 a0, .int .i64 0, .string (⟨#[]⟩ : ByteArray), .slice none 0 0, .slice none 0 0]) ?_ 1 _ rfl; (with_reducible repeat (first | refine blk_drewN ?_ _ | refine blk_drew ?_ | refine blk_alloc ?_ _)); refine blk_put (cs := #[.int .i64 0, .int .i64 0, .string (⟨#[]⟩ : ByteArray), .slice none 0 0, .slice none 0 0]) ?_ 0 _ rfl; (with_reducible repeat (first | refine blk_drewN ?_ _ | refine blk_drew ?_ | refine blk_alloc ?_ _)); refine blk_far ?_ d0.out _; (with_reducible repeat (first | refine blk_drewN ?_ _ | refine blk_drew ?_ | refine blk_alloc ?_ _)); exact a5.out) Try.underlying29 rfl (by kernel_rfl)) rfl ?_
 exact ⟨_, _, zE, by (with_reducible repeat (first | apply Kd.S_alloc | apply Kd.S_drewN | apply Kd.S_drew)); exact Kd.S_mono (Kd.S_far (p := ⟨a4, 4, none⟩) (Kd.S_far (p := ⟨a4, 3, none⟩) (Kd.S_far (p := ⟨a4, 2, none⟩) (Kd.S_far (p := ⟨a4, 1, none⟩) (Kd.S_far (p := ⟨a4, 0, none⟩) (Kd.S_far (p := ⟨a9, 4, none⟩) (Kd.S_mono (Kd.S_mono c1.out (fun k_ hk => (⟨hk, hk.1.2⟩ : _ ∧ k_ ≠ a9))) (fun k_ hk => (⟨hk, hk.1.1.1.2⟩ : _ ∧ k_ ≠ a4))) (fun _ hk => hk.1.2) (.slice b9 b1.length c0)) (fun _ hk => hk.2) (.int .i64 a0)) (fun _ hk => hk.2) (.int .i64 a1)) (fun _ hk => hk.2) (.string a3)) (fun _ hk => hk.2) (.slice b3 b0.length b4)) (fun _ hk => hk.2) (.slice b9 b1.length c0)) (fun _ hk => hk.1.1.2), zR (Kd.R_mono (Kd.R_far (p := ⟨a4, 4, none⟩) (Kd.R_far (p := ⟨a4, 3, none⟩) (Kd.R_far (p := ⟨a4, 2, none⟩) (Kd.R_far (p := ⟨a4, 1, none⟩) (Kd.R_far (p := ⟨a4, 0, none⟩) (Kd.R_far (p := ⟨a9, 4, none⟩) (Kd.R_types (Kd.R_types d2.out a8.out (by decide)) a5.out (by decide)) (fun _ hk => hk.1.2) (.slice b9 b1.length c0)) (fun _ hk => hk.2) (.int .i64 a0)) (fun _ hk => hk.2) (.int .i64 a1)) (fun _ hk => hk.2) (.string a3)) (fun _ hk => hk.2) (.slice b3 b0.length b4)) (fun _ hk => hk.2) (.slice b9 b1.length c0)) (fun _ hk => trivial)), zW HB.out⟩
/-! ### slices_Index_string_string: function 31 -/
def slices_Index_string_string.l0 : Nat → List ByteArray → ByteArray → Int → Int → Option (Int)
 | 0, _, _, _, _ => none
 | k + 1, x0, x1, x7, x8 => if x8 < x7 then (if 0 ≤ x8 then (if x8 < (x0.length : Int) then (if x1.toList = (rdOf ByteArray.empty x0 x8).toList then (some x8) else (slices_Index_string_string.l0 k x0 x1 x7 (wrap64 (x8 + 1)))) else (none)) else (none)) else (some (-1))
def slices_Index_string_string.f (k : Nat) (l0 : List ByteArray) (a1 : ByteArray) : Option (Int) := slices_Index_string_string.l0 k l0 a1 (l0.length : Int) 0
theorem slices_Index_string_string.calls (k : Nat) (A0 : Option Addr) (c0 : Nat) (l0 : List ByteArray) (a1 : ByteArray) (r : Int) (w : World) (a5 : Kd.C Kd.string w A0 l0.length l0) (a6 : l0.length ≤ c0) (h : slices_Index_string_string.f k l0 a1 = some r) :
  Calls Try.prog 31 #[.slice A0 l0.length c0, .string a1] w fun e w' => e = .returned (.int .i64 r) ∧ Drawn0 w w' := by
 have a7 := zA a5
 have b4 := zA a6
 clear a5 a6
 unfold slices_Index_string_string.f at h
 have H := h
 clear h
 have H' := zA H
 clear H
 go_enter Try.func31, Try.ntmps31
 go_wp2
 go_loopg [8] k (fun kq v8 w' => ∃ (a0 : Int), v8 = .int .i64 a0 ∧ Aside0 (slices_Index_string_string.l0 kq l0 a1 (l0.length : Int) a0 = some r) ∧ Aside0 (kq ≤ k) ∧ Drawn0 w w')
 case atStart => exact ⟨(0), zS, H', ⟨Nat.le_refl _⟩, zv0⟩
 case round =>
  clear H'
  try clear p2
  obtain ⟨a0, rfl, HA, a8, ⟨m1, rfl⟩⟩ := hrel
  cases gk with
  | zero => exact absurd HA.out (by simp [slices_Index_string_string.l0])
  | succ k1 =>
   have H := HA.out; clear HA; simp only [slices_Index_string_string.l0] at H; replace H := zI0 H
   rcases H with ⟨a9, H⟩ | ⟨a9, H⟩
   ·replace H := zD0 H; obtain ⟨b5, H⟩ := H; replace H := zD0 H; obtain ⟨b6, H⟩ := H; replace H := zI1 H
    rcases H with ⟨c6, H⟩ | ⟨c6, H⟩
    ·have b0 := beq_iff_eq.mpr c6; have b1 := bne_eq_false_iff_eq.mpr c6; clear c6; obtain rfl := zm H; have a2 : 0 ≤ (a0 : Int) := zD; have a3 : a0 < (l0.length : Int) := zD; obtain ⟨b2, a4, b3⟩ := Kd.at_string a7.out a0 a2 a3; cases a4; replace a2 := eq_true a2; replace a3 := eq_true a3
     go_wp2
     go_ret
     exact ⟨by first | rfl | (simp; done) | (simp [*]; done) | (simp; rw [Bool.eq_iff_iff]; simp; done), zv0⟩
    have b0 := beq_eq_false_iff_ne.mpr c6; have b1 := bne_iff_ne.mpr c6; have H' := zA H; clear H; have a2 : 0 ≤ (a0 : Int) := zD; have a3 : a0 < (l0.length : Int) := zD; obtain ⟨b2, a4, b3⟩ := Kd.at_string a7.out a0 a2 a3; cases a4; replace a2 := eq_true a2; replace a3 := eq_true a3
    go_wp2
    go_roundg k1
    case measure => have := a8.out; omega
    case rel => exact ⟨(wrap64 (a0 + 1)), zS, H', ⟨by have := a8.out; omega⟩, zv0⟩
   obtain rfl := zm H
   go_wp2
   go_ret
   exact ⟨by first | rfl | (simp; done) | (simp [*]; done) | (simp; rw [Bool.eq_iff_iff]; simp; done), zv0⟩
/-! ### impl_inRange: function 32 -/
def impl_inRange.f (a0 a1 a2 : Int) : Option (Bool) := if a0 ≥ a1 then (some (decide (a0 ≤ a2))) else (some false)
theorem impl_inRange.calls (a0 a1 a2 : Int) (r : Bool) (w : World) (h : impl_inRange.f a0 a1 a2 = some r) :
  Calls Try.prog 32 #[.int .i64 a0, .int .i64 a1, .int .i64 a2] w fun e w' => e = .returned (.bool r) ∧ Drawn0 w w' := by
 unfold impl_inRange.f at h
 have H := h
 clear h
 replace H := zI1 H
 rcases H with ⟨c4, H⟩ | ⟨c4, H⟩
 ·have a3 : decide (a1 ≤ a0) = true := decide_eq_true c4; clear c4; obtain rfl := zm H
  go_enter Try.func32, Try.ntmps32
  go_wp2
  go_ret
  exact ⟨by first | rfl | (simp; done) | (simp [*]; done) | (simp; rw [Bool.eq_iff_iff]; simp; done), zv0⟩
 have a3 : decide (a1 ≤ a0) = false := decide_eq_false c4
 clear c4
 obtain rfl := zm H
 go_enter Try.func32, Try.ntmps32
 go_wp2
 go_ret
 exact ⟨by first | rfl | (simp; done) | (simp [*]; done) | (simp; rw [Bool.eq_iff_iff]; simp; done), zv0⟩
/-! ### slices_Clone_string_string: function 62 -/
def slices_Clone_string_string.f (l0 : List ByteArray) : Option (List ByteArray) := (some (([] : List ByteArray) : List ByteArray)).bind fun a0 => (if a0.length + l0.length < 8796093022208 then (some (a0 ++ l0)) else (none))
theorem slices_Clone_string_string.calls (A0 : Option Addr) (c0 : Nat) (l0 r : List ByteArray) (w : World) (a5 : Kd.C Kd.string w A0 l0.length l0) (a6 : l0.length ≤ c0) (h : slices_Clone_string_string.f l0 = some r) :
  Calls Try.prog 62 #[.slice A0 l0.length c0] w fun e w' => ∃ a7 : Value, e = .returned (a7) ∧ Kd.R Kd.string 9 w' w.heap.size (fun _ => True) a7 r ∧ Below w.heap.size w w' := by
 have a8 := zA a5
 have b5 := zA a6
 clear a5 a6
 have HB := zA (Below.refl w.heap.size w)
 unfold slices_Clone_string_string.f at h
 have H := h
 clear h
 obtain ⟨a1, a2⟩ : ∃ y_ : List ByteArray, y_ = (([] : List ByteArray)) := ⟨_, rfl⟩
 replace H : (if a1.length + l0.length < 8796093022208 then (some (a1 ++ l0)) else (none)) = some r := zY a2 H
 have a3 := zA a2
 clear a2
 replace H := zC0 H
 obtain ⟨c2, H⟩ := H
 have b1 := zA c2
 clear c2
 obtain ⟨b2, a4⟩ : ∃ y_ : List ByteArray, y_ = (a1 ++ l0) := ⟨_, rfl⟩
 replace H : (some b2) = some r := zY a4 H
 have a9 := zA a4
 clear a4
 obtain rfl := zm H
 rcases A0 with _ | A0v
 ·have he_ : l0 = [] := by
   rcases l0 with _ | ⟨x_, l_⟩
   ·rfl
   ·obtain ⟨_, h_, _⟩ := a8.out.2.2 (by simp); cases h_
  subst he_
  have hq_ : ∀ W : World, Sem.run Try.prog (Go.binOp .eql 23 (.slice none 0 c0) (.slice none 0 0)) W = .ok (.bool true) W := fun W => by rw [Lib.run_eql_slice_nil W 23 9 none 0 c0 0 0 Try.underlying23]; rfl
  go_enter Try.func62, Try.ntmps62
  go_wp2
  go_ret
  exact ⟨_, rfl, (by rw [a9.out, a3.out]; exact Kd.R_nil _ _ _ _ _), zB⟩
 have hq_ : ∀ W : World, Sem.run Try.prog (Go.binOp .eql 23 (.slice (some A0v) l0.length c0) (.slice none 0 0)) W = .ok (.bool false) W := fun W => by rw [Lib.run_eql_slice_nil W 23 9 (some A0v) l0.length c0 0 0 Try.underlying23]; rfl
 go_enter Try.func62, Try.ntmps62
 go_wp2_with (first | ((with_reducible refine gate_dst (N := 5) rfl ?_); refine Kd.R_lit Kd.string _ 9 ?hg (N := 5) ?hd (xs := ([] : List ByteArray)) (inner := []) (ok := fun _ => True) ?hr ?hp (fun _ hk => hk) trivial (Below.refl _ _) (Nat.le_refl _) (by simp) ?_; (case hd => rfl); (case hg => rfl); (case hr => first | (go_simp; done) | (go_simp; rfl)); (case hp => exact (Reps.none _ _)); intro b3 w3 a0 hb hg_ hnew_; clear hg_ hnew_; (first | rw [← a3.out] at a0 | (simp only [Int.reduceToNat] at a0; rw [← a3.out] at a0)); have b0 := zA (Kd.R_lower a0 (below_size (zB))); replace HB := zA (below_step (zB) hb); clear hb a0) | ((with_reducible refine gate_builtin (b := .append) (xs := #[.tmp 5, .tmp 6]) rfl ?_); at_builtin; refine Kd.R_append_rows Kd.string (w0 := w) w.heap.size rfl (.tmp 5) (.tmp 6) 23 9 (.string ⟨#[]⟩) 16 rfl Try.underlying23 info9 rfl (by decide) (by omega) b3 a1 l0 _ _ _ (fun _ => True) (fun _ => False) rfl rfl ?aO ?aR (fun _ _ h => h) (fun _ h => h.elim) ?aF ?aB ?aS ?aL ?_; (case aR => exact zC (Kd.C_below a8.out HB.out)); (case aB => exact (zB)); (case aF => exact (fun _ _ => trivial)); (case aO => exact (zR b0.out)); (case aS => exact (below_size (zB))); (case aL => have := b1.out; omega); intro b6 w5 ho hb hg hat; rw [← a9.out] at ho; replace HB := zA (hb); have b4 := zA (ho); clear b0; clear ho hb hg hat))
 go_ret
 exact ⟨_, zE, zR b4.out, zB⟩
end Go.Proofs.Ytglhniiabhknoaa.PGA
