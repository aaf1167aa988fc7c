/- The walks of the functions that these laws reach, and what each comes to: printed by this session's program. -/
import Derived.Test.YtglhniiabhknoaaDoorZGAPGAx0
import Derived.Test.YtglhniiabhknoaaDoorZGASays
namespace Go.Proofs.YtglhniiabhknoaaDoor.PGA
open Go.RowKit YtglhniiabhknoaaDoorW.PrintWords YtglhniiabhknoaaDoorW.PrintLast YtglhniiabhknoaaDoorW.PrintMore
attribute [local go_sem high] Mine.str_gtr Mine.str_leq Mine.str_geq
attribute [local go_sem] max2_int min2_int max_two min_two max_three min_three max_four min_four   -- for this text's walks alone
set_option linter.unusedVariables false
set_option maxHeartbeats 8000000
set_option maxRecDepth 100000
set_option linter.unusedSimpArgs false
/-! ### laws_szStringS: function 10 -/
mutual
def laws_szStringS.j0 : Nat → List ByteArray → Int → Option (Int)
 | 0, _, _ => none
 | k + 1, x0, x1 => laws_szStringS.l0 k x0 x1 0
def laws_szStringS.l0 : Nat → List ByteArray → Int → Int → Option (Int)
 | 0, _, _, _ => none
 | k + 1, x0, x1, x5 => if x5 < (x0.length : Int) then (if 0 ≤ x5 then (if (wrap64 (x1 - ((rdOf ByteArray.empty x0 x5).size : Int))) < 0 then (some (-1)) else (laws_szStringS.l0 k x0 (wrap64 (x1 - ((rdOf ByteArray.empty x0 x5).size : Int))) (wrap64 (x5 + 1)))) else (none)) else (some x1)
end
def laws_szStringS.f (k : Nat) (l0 : List ByteArray) (a1 : Int) : Option (Int) := if (wrap64 (a1 - (l0.length : Int))) < 0 then (some (-1)) else (laws_szStringS.j0 k l0 (wrap64 (a1 - (l0.length : Int))))
theorem laws_szStringS.calls (k : Nat) (A0 : Option Addr) (c0 : Nat) (l0 : List ByteArray) (a1 r : Int) (w : World) (a8 : Kd.C Kd.string w A0 l0.length l0) (a9 : l0.length ≤ c0) (h : laws_szStringS.f k l0 a1 = some r) :
  Calls Tryd.prog 10 #[.slice A0 l0.length c0, .int .i64 a1] w fun e w' => e = .returned (.int .i64 r) ∧ Drawn0 w w' := by
 have b0 := zA a8
 have b8 := zA a9
 clear a8 a9
 unfold laws_szStringS.f at h
 have H := h
 clear h
 have a6 := zA H
 clear H
 go_enter Tryd.func10, Tryd.ntmps10
 go_upto_if 11 with (fail)
 go_cut [] (fun wc => ∃ (kq : Nat), Aside0 (laws_szStringS.j0 kq l0 (wrap64 (a1 - (l0.length : Int))) = some r) ∧ Aside0 (kq ≤ k) ∧ Drawn0 w wc)
 case first =>
  have H := a6.out; clear a6; replace H := zI0 H
  rcases H with ⟨a2, H⟩ | ⟨a2, H⟩
  ·(first | rw [a2] | (simp only [i64_w, i32_w]; rw [a2]) | skip)
   obtain rfl := zm H
   go_wp2
   go_ret
   exact ⟨by first | rfl | (simp; done) | (simp [*]; done) | (simp; rw [Bool.eq_iff_iff]; simp; done), zv0⟩
  (first | rw [a2] | (simp only [i64_w, i32_w]; rw [a2]) | skip)
  have H' := zA H; clear H
  go_wp2
  go_meet
  case rel => exact ⟨_, (by first | exact H' | (subst_vars; exact H')), ⟨by first | omega | exact Nat.le_refl _⟩, zv0⟩
 case rest =>
  clear a6
  try clear c1
  try clear p2
  try clear c4
  try clear a2
  obtain ⟨kq, HA, b1, ⟨b9, rfl⟩⟩ := hcut
  cases kq with
  | zero => exact absurd HA.out (by simp [laws_szStringS.j0])
  | succ b2 =>
   have H := HA.out; clear HA; simp only [laws_szStringS.j0] at H; have H' := zA H; clear H
   go_wp2
   go_loopg [1, 5] b2 (fun kq v1 v5 w' => ∃ (a5 : Int) (a0 : Int), v1 = .int .i64 a5 ∧ v5 = .int .i64 a0 ∧ Aside0 (laws_szStringS.l0 kq l0 a5 a0 = some r) ∧ Aside0 (kq ≤ b2) ∧ Drawn0 w w')
   case atStart => exact ⟨((wrap64 (a1 - (l0.length : Int)))), (0), zS, zS, H', ⟨Nat.le_refl _⟩, zv0⟩
   case round =>
    clear H'
    try clear c1
    try clear c2
    try clear p2
    try clear c4
    try clear a2
    try clear p2
    obtain ⟨a5, a0, rfl, rfl, HA, b3, ⟨m2, rfl⟩⟩ := hrel
    cases gk with
    | zero => exact absurd HA.out (by simp [laws_szStringS.l0])
    | succ k2 =>
     have H := HA.out; clear HA; simp only [laws_szStringS.l0] at H; replace H := zI0 H
     rcases H with ⟨b4, H⟩ | ⟨b4, H⟩
     ·replace H := zD0 H; obtain ⟨c3, H⟩ := H; replace H := zI0 H
      rcases H with ⟨b5, H⟩ | ⟨b5, H⟩
      ·obtain rfl := zm H; have a3 : 0 ≤ (a0 : Int) := zD; have a4 : a0 < (l0.length : Int) := zD; obtain ⟨b6, a7, b7⟩ := Kd.at_string b0.out a0 a3 a4; cases a7; replace a3 := eq_true a3; replace a4 := eq_true a4
       go_wp2
       go_ret
       exact ⟨by first | rfl | (simp; done) | (simp [*]; done) | (simp; rw [Bool.eq_iff_iff]; simp; done), zv0⟩
      have H' := zA H; clear H; have a3 : 0 ≤ (a0 : Int) := zD; have a4 : a0 < (l0.length : Int) := zD; obtain ⟨b6, a7, b7⟩ := Kd.at_string b0.out a0 a3 a4; cases a7; replace a3 := eq_true a3; replace a4 := eq_true a4
      go_wp2
      go_roundg k2
      case measure => have := b1.out; have := b3.out; omega
      case rel => exact ⟨(wrap64 (a5 - ((rdOf ByteArray.empty l0 a0).size : Int))), (wrap64 (a0 + 1)), zS, zS, H', ⟨by have := b1.out; have := b3.out; omega⟩, zv0⟩
     obtain rfl := zm H
     go_wp2
     go_ret
     exact ⟨by first | rfl | (simp; done) | (simp [*]; done) | (simp; rw [Bool.eq_iff_iff]; simp; done), zv0⟩
class laws_szVal.Rec where
 f : Nat → Int → Int → ByteArray → List (S25) → List ByteArray → Int → Option (Int)
class laws_szVal.Rec.Ok [laws_szVal.Rec] : Prop where
 calls : ∀ (k : Nat) (a3 : Int) (a4 : Int) (a5 : ByteArray) (a6 : Option Addr) (a7 : Nat) (a0 : List (S25)) (a8 : Option Addr) (a9 : Nat) (a2 : List ByteArray) (a1 : Int) (r : Int) (w : World) (b0 : Kd.C k25 w a6 a0.length a0) (b1 : a0.length ≤ a7) (b2 : Kd.C Kd.string w a8 a2.length a2) (b3 : a2.length ≤ a9) (h : laws_szVal.Rec.f k a3 a4 a5 a0 a2 a1 = some r),
  Calls Tryd.prog 4 #[.agg #[.int .i64 a3, .int .i64 a4, .string a5, .slice a6 a0.length a7, .slice a8 a2.length a9], .int .i64 a1] w fun e w' => e = .returned (.int .i64 r) ∧ Below w.heap.size w w'
theorem laws_szVal.Rec.calls [laws_szVal.Rec] [o : laws_szVal.Rec.Ok] : ∀ (k : Nat) (a3 a4 : Int) (a5 : ByteArray) (a6 : Option Addr) (a7 : Nat) (a0 : List (S25)) (a8 : Option Addr) (a9 : Nat) (a2 : List ByteArray) (a1 r : Int) (w : World) (b0 : Kd.C k25 w a6 a0.length a0) (b1 : a0.length ≤ a7) (b2 : Kd.C Kd.string w a8 a2.length a2) (b3 : a2.length ≤ a9) (h : laws_szVal.Rec.f k a3 a4 a5 a0 a2 a1 = some r),
  Calls Tryd.prog 4 #[.agg #[.int .i64 a3, .int .i64 a4, .string a5, .slice a6 a0.length a7, .slice a8 a2.length a9], .int .i64 a1] w fun e w' => e = .returned (.int .i64 r) ∧ Below w.heap.size w w' := o.calls
section
set_option linter.unusedSectionVars false
variable [laws_szVal.Rec] [laws_szVal.Rec.Ok]
/-! ### laws_szValS: function 9 -/
mutual
def laws_szValS.j0 : Nat → List (S25) → Int → Option (Int)
 | 0, _, _ => none
 | k + 1, x0, x1 => laws_szValS.l0 k x0 x1 0
def laws_szValS.l0 : Nat → List (S25) → Int → Int → Option (Int)
 | 0, _, _, _ => none
 | k + 1, x0, x1, x5 => if x5 < (x0.length : Int) then (if 0 ≤ x5 then ((laws_szVal.Rec.f k ((rd_T25 x0 x5).f0) ((rd_T25 x0 x5).f1) ((rd_T25 x0 x5).f2) ((rd_T25 x0 x5).f3) ((rd_T25 x0 x5).f4) x1).bind fun a0 => (if a0 < 0 then (some (-1)) else (laws_szValS.l0 k x0 a0 (wrap64 (x5 + 1))))) else (none)) else (some x1)
end
def laws_szValS.f (k : Nat) (l0 : List (S25)) (a1 : Int) : Option (Int) := if (wrap64 (a1 - (l0.length : Int))) < 0 then (some (-1)) else (laws_szValS.j0 k l0 (wrap64 (a1 - (l0.length : Int))))
theorem laws_szValS.calls (k : Nat) (A0 : Option Addr) (c0 : Nat) (l0 : List (S25)) (a1 r : Int) (w : World) (c8 : Kd.C k25 w A0 l0.length l0) (c9 : l0.length ≤ c0) (h : laws_szValS.f k l0 a1 = some r) :
  Calls Tryd.prog 9 #[.slice A0 l0.length c0, .int .i64 a1] w fun e w' => e = .returned (.int .i64 r) ∧ Below w.heap.size w w' := by
 have d8 := Tryd.underlying25
 have d0 := zA c8
 have d9 := zA c9
 clear c8 c9
 have HB := zA (Below.refl w.heap.size w)
 unfold laws_szValS.f at h
 have H := h
 clear h
 have b5 := zA H
 clear H
 go_enter Tryd.func9, Tryd.ntmps9
 go_upto_if 11 with (fail)
 go_cut [] (fun wc => ∃ (kq : Nat), Aside0 (laws_szValS.j0 kq l0 (wrap64 (a1 - (l0.length : Int))) = some r) ∧ Aside0 (kq ≤ k) ∧ Aside0 (Below w.heap.size w wc))
 case first =>
  have H := b5.out; clear b5; replace H := zI0 H
  rcases H with ⟨a2, H⟩ | ⟨a2, H⟩
  ·(first | rw [a2] | (simp only [i64_w, i32_w]; rw [a2]) | skip)
   obtain rfl := zm H
   go_wp2
   go_ret
   exact ⟨zE, zB⟩
  (first | rw [a2] | (simp only [i64_w, i32_w]; rw [a2]) | skip)
  have H' := zA H; clear H
  go_wp2
  go_meet
  case rel => exact ⟨_, (by first | exact H' | (subst_vars; exact H')), ⟨by first | omega | exact Nat.le_refl _⟩, ⟨zB⟩⟩
 case rest =>
  clear b5
  try clear p2
  try clear c4
  try clear a2
  obtain ⟨kq, HA, d1, HB⟩ := hcut
  cases kq with
  | zero => exact absurd HA.out (by simp [laws_szValS.j0])
  | succ d2 =>
   have H := HA.out; clear HA; simp only [laws_szValS.j0] at H; have H' := zA H; clear H
   go_wp2
   go_loopg [1, 5] d2 (fun kq v1 v5 w' => ∃ (a3 : Int) (a0 : Int), v1 = .int .i64 a3 ∧ v5 = .int .i64 a0 ∧ Aside0 (laws_szValS.l0 kq l0 a3 a0 = some r) ∧ Aside0 (kq ≤ d2) ∧ Aside0 (Below w.heap.size w w'))
   case atStart => exact ⟨((wrap64 (a1 - (l0.length : Int)))), (0), zS, zS, H', ⟨Nat.le_refl _⟩, ⟨zB⟩⟩
   case round =>
    clear H'
    try clear p2
    try clear c4
    try clear a2
    try clear p2
    obtain ⟨a3, a0, rfl, rfl, HA, d3, HB⟩ := hrel
    cases gk with
    | zero => exact absurd HA.out (by simp [laws_szValS.l0])
    | succ k2 =>
     have H := HA.out; clear HA; simp only [laws_szValS.l0] at H; replace H := zI0 H
     rcases H with ⟨d5, H⟩ | ⟨d5, H⟩
     ·replace H := zD0 H; obtain ⟨e0, H⟩ := H; replace H := Option.bind_eq_some_iff.mp H; obtain ⟨b6, d4, H⟩ := H
      try dsimp only at H
      have A7 := zA d4; clear d4; replace H := zI0 H
      rcases H with ⟨d6, H⟩ | ⟨d6, H⟩
      ·obtain rfl := zm H; have a4 : 0 ≤ (a0 : Int) := zD; have a5 : a0 < (l0.length : Int) := zD; obtain ⟨d7, b7, b8, b9, c1, c2, a6, a7, a8, a9, b0, b1, b2, b3, b4⟩ := at_T25 d0.out a0 a4 a5; cases c2; replace a6 := zx HB a6; replace a7 := zx HB a7; replace a8 := zx HB a8; replace a9 := zx HB a9; replace b0 := zx HB b0; have c3 := zA b2; have c5 := zA b1; clear b2 b1; have c6 := zA b4; have c7 := zA b3; clear b4 b3; replace a4 := eq_true a4; replace a5 := eq_true a5
       go_wp2_with (first | ((with_reducible refine zq 4 ?_); refine zg (some 23) Tryd.func4 #[.agg #[.int .i64 ((rd_T25 l0 a0).f0), .int .i64 ((rd_T25 l0 a0).f1), .string ((rd_T25 l0 a0).f2), .slice b7 ((rd_T25 l0 a0).f3).length b8, .slice b9 ((rd_T25 l0 a0).f4).length c1], .int .i64 a3] ?_; (with_reducible refine (laws_szVal.Rec.calls k2 ((rd_T25 l0 a0).f0) ((rd_T25 l0 a0).f1) ((rd_T25 l0 a0).f2) _ _ ((rd_T25 l0 a0).f3) _ _ ((rd_T25 l0 a0).f4) a3 b6 _ ?s1 ?s2 ?s3 ?s4 A7.out).mono ?_); (case s1 => exact zC (Kd.C_below c3.out HB.out)); (case s2 => exact c5.out); (case s3 => exact zC (Kd.C_below c6.out HB.out)); (case s4 => exact c7.out); rintro e w9 ⟨rfl, hb⟩; refine ⟨_, rfl, ?_⟩; replace HB := zA (below_step (zB) hb); (try clear hb)))
       go_ret
       exact ⟨zE, zB⟩
      have H' := zA H; clear H; have a4 : 0 ≤ (a0 : Int) := zD; have a5 : a0 < (l0.length : Int) := zD; obtain ⟨d7, b7, b8, b9, c1, c2, a6, a7, a8, a9, b0, b1, b2, b3, b4⟩ := at_T25 d0.out a0 a4 a5; cases c2; replace a6 := zx HB a6; replace a7 := zx HB a7; replace a8 := zx HB a8; replace a9 := zx HB a9; replace b0 := zx HB b0; have c3 := zA b2; have c5 := zA b1; clear b2 b1; have c6 := zA b4; have c7 := zA b3; clear b4 b3; replace a4 := eq_true a4; replace a5 := eq_true a5
      go_wp2_with (first | ((with_reducible refine zq 4 ?_); refine zg (some 23) Tryd.func4 #[.agg #[.int .i64 ((rd_T25 l0 a0).f0), .int .i64 ((rd_T25 l0 a0).f1), .string ((rd_T25 l0 a0).f2), .slice b7 ((rd_T25 l0 a0).f3).length b8, .slice b9 ((rd_T25 l0 a0).f4).length c1], .int .i64 a3] ?_; (with_reducible refine (laws_szVal.Rec.calls k2 ((rd_T25 l0 a0).f0) ((rd_T25 l0 a0).f1) ((rd_T25 l0 a0).f2) _ _ ((rd_T25 l0 a0).f3) _ _ ((rd_T25 l0 a0).f4) a3 b6 _ ?s1 ?s2 ?s3 ?s4 A7.out).mono ?_); (case s1 => exact zC (Kd.C_below c3.out HB.out)); (case s2 => exact c5.out); (case s3 => exact zC (Kd.C_below c6.out HB.out)); (case s4 => exact c7.out); rintro e e1 ⟨rfl, hb⟩; refine ⟨_, rfl, ?_⟩; replace HB := zA (below_step (zB) hb); (try clear hb)))
      go_roundg k2
      case measure => have := d1.out; have := d3.out; omega
      case rel => exact ⟨(b6), (wrap64 (a0 + 1)), zS, zS, H', ⟨by have := d1.out; have := d3.out; omega⟩, ⟨zB⟩⟩
     obtain rfl := zm H
     go_wp2
     go_ret
     exact ⟨zE, zB⟩
end
/-! ### laws_szVal: function 4 -/
mutual
def laws_szVal.j0 : Nat → Int → Int → Int → ByteArray → List (S25) → List ByteArray → Option (Int)
 | 0, _, _, _, _, _, _ => none
 | k + 1, x1, b0, b1, b2, a4, a5 => (@laws_szValS.f ⟨fun _ => laws_szVal.f k⟩ k a4 x1).bind fun a2 => (if a2 < 0 then (some (-1)) else ((laws_szStringS.f k a5 a2).bind fun a3 => (if a3 < 0 then (some (-1)) else (some a3))))
def laws_szVal.f : Nat → Int → Int → ByteArray → List (S25) → List ByteArray → Int → Option (Int)
 | 0, _, _, _, _, _, _ => none
 | k + 1, a6, a7, a0, a8, a9, a1 => if (wrap64 (a1 - (a0.size : Int))) < 0 then (some (-1)) else (laws_szVal.j0 k (wrap64 (a1 - (a0.size : Int))) a6 a7 a0 a8 a9)
end
theorem laws_szVal.calls (k : Nat) : ∀ (b1 b2 : Int) (a4 : ByteArray) (a6 : Option Addr) (a7 : Nat) (a0 : List (S25)) (a8 : Option Addr) (a9 : Nat) (a5 : List ByteArray) (a1 r : Int) (w : World) (b4 : Kd.C k25 w a6 a0.length a0) (b5 : a0.length ≤ a7) (b6 : Kd.C Kd.string w a8 a5.length a5) (b7 : a5.length ≤ a9) (h : laws_szVal.f k b1 b2 a4 a0 a5 a1 = some r),
  Calls Tryd.prog 4 #[.agg #[.int .i64 b1, .int .i64 b2, .string a4, .slice a6 a0.length a7, .slice a8 a5.length a9], .int .i64 a1] w fun e w' => e = .returned (.int .i64 r) ∧ Below w.heap.size w w' := by
 induction k using Nat.strongRecOn with
 | _ k ih =>
 intro b1 b2 a4 a6 a7 a0 a8 a9 a5 a1 r w b4 b5 b6 b7 h
 cases k with
 | zero => exact absurd h (by simp [laws_szVal.f])
 | succ k =>
 simp only [laws_szVal.f] at h
 have e3 := Tryd.underlying25
 have b8 := zA b4
 have b9 := zA b5
 clear b4 b5
 have c2 := zA b6
 have c3 := zA b7
 clear b6 b7
 have HB := zA (Below.refl w.heap.size w)
 have H := h
 clear h
 have c0 := zA H
 clear H
 go_enter Tryd.func4, Tryd.ntmps4
 go_upto_if 11 with (first | ((with_reducible refine zd 2 ?_); refine ze 2 25 #[.int .i64 b1, .int .i64 b2, .string a4, .slice a6 a0.length a7, .slice a8 a5.length a9] ?_; intro d0 hg w4 hbox hb; have a2 := zA (hbox); have e4 := zi HB hg; have e5 := zi HB hg; replace HB := zA (below_step (zB) hb); clear hb hbox hg; obtain ⟨d1, d2, d3, d4, d5, d6, d7, d8, d9, e0⟩ := ze5 a2.out))
 (try simp only [Act.put, zT])
 go_cut [] (fun wc => ∃ (kq : Nat), Aside0 (laws_szVal.j0 kq (wrap64 (a1 - (a4.size : Int))) b1 b2 a4 a0 a5 = some r) ∧ Aside0 (kq ≤ k) ∧ Aside0 (wc.heap[d0]? = some (.cells #[.int .i64 b1, .int .i64 b2, .string a4, (.slice a6 a0.length a7), (.slice a8 a5.length a9)] 25 (0, 0))) ∧ Aside0 (Below w.heap.size w wc))
 case first =>
  have H := c0.out; clear c0; replace H := zI0 H
  rcases H with ⟨b3, H⟩ | ⟨b3, H⟩
  ·(first | rw [b3] | (simp only [i64_w, i32_w]; rw [b3]) | skip)
   obtain rfl := zm H
   go_wp2
   go_ret
   exact ⟨zE, zW HB.out⟩
  (first | rw [b3] | (simp only [i64_w, i32_w]; rw [b3]) | skip)
  have H' := zA H; clear H
  go_wp2
  go_meet
  case rel => exact ⟨_, (by first | exact H' | (subst_vars; exact H')), ⟨by first | omega | exact Nat.le_refl _⟩, ⟨zK a2.out⟩, ⟨zW HB.out⟩⟩
 case rest =>
  clear c0
  try clear p2
  try clear c4
  try clear c6
  try clear b3
  try clear p6
  try clear d1 d2 d3 d4 d5 d6 d7 d8 d9 e0
  obtain ⟨kq, HA, c1, a2, HB⟩ := hcut
  cases kq with
  | zero => exact absurd HA.out (by simp [laws_szVal.j0])
  | succ a3 =>
   have H := HA.out; clear HA; simp only [laws_szVal.j0] at H; replace H := Option.bind_eq_some_iff.mp H; obtain ⟨b0, c5, H⟩ := H
   try dsimp only at H
   have A7 := zA c5; clear c5; replace H := zI0 H
   rcases H with ⟨e1, H⟩ | ⟨e1, H⟩
   ·obtain rfl := zm H; obtain ⟨e6, e7, e8, e9, f0, f1, f2, f3, f4, f5⟩ := ze5 a2.out
    go_wp2_with (first | ((with_reducible refine zq 9 ?_); refine zg (some 15) Tryd.func9 #[.slice a6 a0.length a7, .int .i64 (wrap64 (a1 - (a4.size : Int)))] ?_; (refine (@laws_szValS.calls ⟨fun _ => laws_szVal.f a3⟩ (@laws_szVal.Rec.Ok.mk ⟨fun _ => laws_szVal.f a3⟩ (fun _ => ih a3 (by have := c1.out; omega))) a3 _ _ a0 (wrap64 (a1 - (a4.size : Int))) b0 _ ?s1 ?s2 A7.out).mono ?_); (case s1 => exact zC (Kd.C_below b8.out HB.out)); (case s2 => exact b9.out); rintro e f6 ⟨rfl, hb⟩; refine ⟨_, rfl, ?_⟩; replace a2 := zb a2 hb; replace HB := zh HB hb; (try clear hb)))
    go_ret
    exact ⟨zE, zW HB.out⟩
   replace H := Option.bind_eq_some_iff.mp H; obtain ⟨c7, c8, H⟩ := H
   try dsimp only at H
   have c9 := zA c8; clear c8; replace H := zI0 H
   rcases H with ⟨e2, H⟩ | ⟨e2, H⟩
   ·obtain rfl := zm H; obtain ⟨f7, f8, f9, g0, g1, g2, g3, g4, g5, g6⟩ := ze5 a2.out
    go_wp2_with (first | ((with_reducible refine zq 9 ?_); refine zg (some 15) Tryd.func9 #[.slice a6 a0.length a7, .int .i64 (wrap64 (a1 - (a4.size : Int)))] ?_; (refine (@laws_szValS.calls ⟨fun _ => laws_szVal.f a3⟩ (@laws_szVal.Rec.Ok.mk ⟨fun _ => laws_szVal.f a3⟩ (fun _ => ih a3 (by have := c1.out; omega))) a3 _ _ a0 (wrap64 (a1 - (a4.size : Int))) b0 _ ?s1 ?s2 A7.out).mono ?_); (case s1 => exact zC (Kd.C_below b8.out HB.out)); (case s2 => exact b9.out); rintro e g7 ⟨rfl, hb⟩; refine ⟨_, rfl, ?_⟩; replace a2 := zb a2 hb; replace HB := zh HB hb; (try clear hb); obtain ⟨g8, g9, h0, h1, h2, h3, h4, h5, h6, h7⟩ := ze5 a2.out) | ((with_reducible refine zq 10 ?_); refine zg (some 21) Tryd.func10 #[.slice a8 a5.length a9, .int .i64 b0] ?_; (with_reducible refine (laws_szStringS.calls a3 _ _ a5 b0 c7 _ ?s1 ?s2 c9.out).mono ?_); (case s1 => exact zC (Kd.C_below c2.out HB.out)); (case s2 => exact c3.out); rintro e w' ⟨rfl, ⟨nd, rfl⟩⟩; refine ⟨_, rfl, ?_⟩))
    go_ret
    exact ⟨zE, zW HB.out⟩
   obtain rfl := zm H; obtain ⟨h8, h9, i0, i1, i2, i3, i4, i5, i6, i7⟩ := ze5 a2.out
   go_wp2_with (first | ((with_reducible refine zq 9 ?_); refine zg (some 15) Tryd.func9 #[.slice a6 a0.length a7, .int .i64 (wrap64 (a1 - (a4.size : Int)))] ?_; (refine (@laws_szValS.calls ⟨fun _ => laws_szVal.f a3⟩ (@laws_szVal.Rec.Ok.mk ⟨fun _ => laws_szVal.f a3⟩ (fun _ => ih a3 (by have := c1.out; omega))) a3 _ _ a0 (wrap64 (a1 - (a4.size : Int))) b0 _ ?s1 ?s2 A7.out).mono ?_); (case s1 => exact zC (Kd.C_below b8.out HB.out)); (case s2 => exact b9.out); rintro e i8 ⟨rfl, hb⟩; refine ⟨_, rfl, ?_⟩; replace a2 := zb a2 hb; replace HB := zh HB hb; (try clear hb); obtain ⟨i9, j1, j2, j3, j4, j5, j6, j7, j8, j9⟩ := ze5 a2.out) | ((with_reducible refine zq 10 ?_); refine zg (some 21) Tryd.func10 #[.slice a8 a5.length a9, .int .i64 b0] ?_; (with_reducible refine (laws_szStringS.calls a3 _ _ a5 b0 c7 _ ?s1 ?s2 c9.out).mono ?_); (case s1 => exact zC (Kd.C_below c2.out HB.out)); (case s2 => exact c3.out); rintro e w' ⟨rfl, ⟨nd, rfl⟩⟩; refine ⟨_, rfl, ?_⟩))
   go_ret
   exact ⟨zE, zW HB.out⟩
/-! ### spec_l1In: function 35 -/
def spec_l1In.f (a0 a1 a2 : Int) : Option (Bool) := if a0 ≥ a1 then (some (decide (a0 ≤ a2))) else (some false)
theorem spec_l1In.calls (a0 a1 a2 : Int) (r : Bool) (w : World) (h : spec_l1In.f a0 a1 a2 = some r) :
  Calls Tryd.prog 35 #[.int .i64 a0, .int .i64 a1, .int .i64 a2] w fun e w' => e = .returned (.bool r) ∧ Drawn0 w w' := by
 unfold spec_l1In.f at h
 have H := h
 clear h
 replace H := zI1 H
 rcases H with ⟨c4, H⟩ | ⟨c4, H⟩
 ·have a3 : decide (a1 ≤ a0) = true := decide_eq_true c4; clear c4; obtain rfl := zm H
  go_enter Tryd.func35, Tryd.ntmps35
  go_wp2
  go_ret
  exact ⟨by first | rfl | (simp; done) | (simp [*]; done) | (simp; rw [Bool.eq_iff_iff]; simp; done), zv0⟩
 have a3 : decide (a1 ≤ a0) = false := decide_eq_false c4
 clear c4
 obtain rfl := zm H
 go_enter Tryd.func35, Tryd.ntmps35
 go_wp2
 go_ret
 exact ⟨by first | rfl | (simp; done) | (simp [*]; done) | (simp; rw [Bool.eq_iff_iff]; simp; done), zv0⟩
/-! ### spec_l2Text: function 34 -/
def spec_l2Text.l0 : Nat → ByteArray → Int → Option (Bool)
 | 0, _, _ => none
 | k + 1, x0, x3 => if x3 < (x0.size : Int) then (if 0 ≤ x3 then ((spec_l1In.f (wrap64 (bt x0 x3)) 32 126).bind fun a0 => (if a0 = true then (spec_l2Text.l0 k x0 (wrap64 (x3 + 1))) else (if (bt x0 x3) = 9 then (spec_l2Text.l0 k x0 (wrap64 (x3 + 1))) else (if (bt x0 x3) = 10 then (spec_l2Text.l0 k x0 (wrap64 (x3 + 1))) else (some false))))) else (none)) else (some (decide ((x0.size : Int) ≤ 60)))
def spec_l2Text.f (k : Nat) (a0 : ByteArray) : Option (Bool) := spec_l2Text.l0 k a0 0
theorem spec_l2Text.calls (k : Nat) (a0 : ByteArray) (r : Bool) (w : World) (h : spec_l2Text.f k a0 = some r) :
  Calls Tryd.prog 34 #[.string a0] w fun e w' => e = .returned (.bool r) ∧ Drawn0 w w' := by
 unfold spec_l2Text.f at h
 have H := h
 clear h
 have H' := zA H
 clear H
 go_enter Tryd.func34, Tryd.ntmps34
 go_wp2
 go_loopg [3] k (fun kq v3 w' => ∃ (a1 : Int), v3 = .int .i64 a1 ∧ Aside0 (spec_l2Text.l0 kq a0 a1 = some r) ∧ Aside0 (kq ≤ k) ∧ Drawn0 w w')
 case atStart => exact ⟨(0), zS, H', ⟨Nat.le_refl _⟩, zv0⟩
 case round =>
  clear H'; obtain ⟨a1, rfl, HA, a2, ⟨m1, rfl⟩⟩ := hrel
  cases gk with
  | zero => exact absurd HA.out (by simp [spec_l2Text.l0])
  | succ k1 =>
   have H := HA.out; clear HA; simp only [spec_l2Text.l0] at H; replace H := zI0 H
   rcases H with ⟨a7, H⟩ | ⟨a7, H⟩
   ·replace H := zD0 H; obtain ⟨b3, H⟩ := H; replace H := Option.bind_eq_some_iff.mp H; obtain ⟨b4, a5, H⟩ := H
    try dsimp only at H
    have A5 := zA a5; clear a5; replace H := zB0 H
    rcases H with ⟨rfl, H⟩ | ⟨rfl, H⟩
    ·have H' := zA H; clear H; have p4 : 0 ≤ (a1 : Int) := zD; have q4 : a1 < (a0.size : Int) := zD; have a4 := bt_at a0 a1; replace p4 := eq_true p4; replace q4 := eq_true q4
     go_wp2_with (first | ((with_reducible refine zq 35 ?_); refine zg (some 14) Tryd.func35 #[.int .i64 (wrap64 (bt a0 a1)), .int .i64 32, .int .i64 126] ?_; (with_reducible refine (spec_l1In.calls (wrap64 (bt a0 a1)) 32 126 true _ A5.out).mono ?_); rintro e w' ⟨rfl, ⟨nd, rfl⟩⟩; refine ⟨_, rfl, ?_⟩))
     go_roundg k1
     case measure => have := a2.out; omega
     case rel => exact ⟨(wrap64 (a1 + 1)), zS, H', ⟨by have := a2.out; omega⟩, zv0⟩
    replace H := zI1 H
    rcases H with ⟨c8, H⟩ | ⟨c8, H⟩
    ·have a8 := beq_iff_eq.mpr c8; have a9 := bne_eq_false_iff_eq.mpr c8; clear c8; have H' := zA H; clear H; have p4 : 0 ≤ (a1 : Int) := zD; have q4 : a1 < (a0.size : Int) := zD; have a4 := bt_at a0 a1; replace p4 := eq_true p4; replace q4 := eq_true q4
     go_wp2_with (first | ((with_reducible refine zq 35 ?_); refine zg (some 14) Tryd.func35 #[.int .i64 (wrap64 (bt a0 a1)), .int .i64 32, .int .i64 126] ?_; (with_reducible refine (spec_l1In.calls (wrap64 (bt a0 a1)) 32 126 false _ A5.out).mono ?_); rintro e w' ⟨rfl, ⟨nd, rfl⟩⟩; refine ⟨_, rfl, ?_⟩; have p7 : 0 ≤ (a1 : Int) := zD; have q7 : a1 < (a0.size : Int) := zD; have a6 := bt_at a0 a1; replace p7 := eq_true p7; replace q7 := eq_true q7))
     go_roundg k1
     case measure => have := a2.out; omega
     case rel => exact ⟨(wrap64 (a1 + 1)), zS, H', ⟨by have := a2.out; omega⟩, zv0⟩
    have a8 := beq_eq_false_iff_ne.mpr c8; have a9 := bne_iff_ne.mpr c8; replace H := zI1 H
    rcases H with ⟨a3, H⟩ | ⟨a3, H⟩
    ·have b0 := beq_iff_eq.mpr a3; have b1 := bne_eq_false_iff_eq.mpr a3; clear a3; have H' := zA H; clear H; have p4 : 0 ≤ (a1 : Int) := zD; have q4 : a1 < (a0.size : Int) := zD; have a4 := bt_at a0 a1; replace p4 := eq_true p4; replace q4 := eq_true q4
     go_wp2_with (first | ((with_reducible refine zq 35 ?_); refine zg (some 14) Tryd.func35 #[.int .i64 (wrap64 (bt a0 a1)), .int .i64 32, .int .i64 126] ?_; (with_reducible refine (spec_l1In.calls (wrap64 (bt a0 a1)) 32 126 false _ A5.out).mono ?_); rintro e w' ⟨rfl, ⟨nd, rfl⟩⟩; refine ⟨_, rfl, ?_⟩; have p7 : 0 ≤ (a1 : Int) := zD; have q7 : a1 < (a0.size : Int) := zD; have a6 := bt_at a0 a1; replace p7 := eq_true p7; replace q7 := eq_true q7; have p9 : 0 ≤ (a1 : Int) := zD; have q9 : a1 < (a0.size : Int) := zD; have b2 := bt_at a0 a1; replace p9 := eq_true p9; replace q9 := eq_true q9))
     go_roundg k1
     case measure => have := a2.out; omega
     case rel => exact ⟨(wrap64 (a1 + 1)), zS, H', ⟨by have := a2.out; omega⟩, zv0⟩
    have b0 := beq_eq_false_iff_ne.mpr a3; have b1 := bne_iff_ne.mpr a3; obtain rfl := zm H; have p4 : 0 ≤ (a1 : Int) := zD; have q4 : a1 < (a0.size : Int) := zD; have a4 := bt_at a0 a1; replace p4 := eq_true p4; replace q4 := eq_true q4
    go_wp2_with (first | ((with_reducible refine zq 35 ?_); refine zg (some 14) Tryd.func35 #[.int .i64 (wrap64 (bt a0 a1)), .int .i64 32, .int .i64 126] ?_; (with_reducible refine (spec_l1In.calls (wrap64 (bt a0 a1)) 32 126 false _ A5.out).mono ?_); rintro e w' ⟨rfl, ⟨nd, rfl⟩⟩; refine ⟨_, rfl, ?_⟩; have p7 : 0 ≤ (a1 : Int) := zD; have q7 : a1 < (a0.size : Int) := zD; have a6 := bt_at a0 a1; replace p7 := eq_true p7; replace q7 := eq_true q7; have p9 : 0 ≤ (a1 : Int) := zD; have q9 : a1 < (a0.size : Int) := zD; have b2 := bt_at a0 a1; replace p9 := eq_true p9; replace q9 := eq_true q9))
    go_ret
    exact ⟨by first | rfl | (simp; done) | (simp [*]; done) | (simp; rw [Bool.eq_iff_iff]; simp; done), zv0⟩
   obtain rfl := zm H
   go_wp2
   go_ret
   exact ⟨by first | rfl | (simp; done) | (simp [*]; done) | (simp; rw [Bool.eq_iff_iff]; simp; done), zv0⟩
/-! ### spec_l2Here: function 26 -/
mutual
def spec_l2Here.j0 : Nat → Bool → Int → Int → ByteArray → List (S30) → List ByteArray → Option (Bool)
 | 0, _, _, _, _, _, _ => none
 | k + 1, a6, a0, a2, a3, a4, a1 => if a6 = true then (some false) else (spec_l2Here.j1 k a0 a2 a3 a4 a1)
def spec_l2Here.j1 : Nat → Int → Int → ByteArray → List (S30) → List ByteArray → Option (Bool)
 | 0, _, _, _, _, _ => none
 | k + 1, a0, a2, a3, a4, a1 => if a0 = 0 then (spec_l2Here.j2 k a0 (a0 == 0) a0 a2 a3 a4 a1) else (if a0 = 3 then (spec_l2Here.j2 k a0 (a0 == 3) a0 a2 a3 a4 a1) else (spec_l2Here.j2 k a0 (a0 == 4) a0 a2 a3 a4 a1))
def spec_l2Here.j2 : Nat → Int → Bool → Int → Int → ByteArray → List (S30) → List ByteArray → Option (Bool)
 | 0, _, _, _, _, _, _, _ => none
 | k + 1, a5, a7, a0, a2, a3, a4, a1 => if a7 = true then (if a2 = 0 then ((spec_l2Text.f k a3).bind fun a8 => (some a8)) else (some false)) else (if a5 = 1 then ((spec_l1In.f a2 0 1).bind fun a9 => (some a9)) else (if a5 = 2 then ((spec_l1In.f a2 (-999999) 999999).bind fun b0 => (some b0)) else (if a5 = 5 then (spec_l2Here.l0 k 0 a0 a2 a3 a4 a1) else (some false))))
def spec_l2Here.l0 : Nat → Int → Int → Int → ByteArray → List (S30) → List ByteArray → Option (Bool)
 | 0, _, _, _, _, _, _ => none
 | k + 1, x3, a0, a2, a3, a4, a1 => if x3 < (a1.length : Int) then (if 0 ≤ x3 then ((spec_l2Text.f k (rdOf ByteArray.empty a1 x3)).bind fun b1 => (if b1 = true then (if x3 > 0 then (if 0 ≤ (wrap64 (x3 - 1)) then (if (wrap64 (x3 - 1)) < (a1.length : Int) then (if ((Op.bytesLess ((rdOf ByteArray.empty a1 (wrap64 (x3 - 1))).toList) ((rdOf ByteArray.empty a1 x3).toList)) = true) then (spec_l2Here.l0 k (wrap64 (x3 + 1)) a0 a2 a3 a4 a1) else (some false)) else (none)) else (none)) else (spec_l2Here.l0 k (wrap64 (x3 + 1)) a0 a2 a3 a4 a1)) else (some false))) else (none)) else (if a2 = 0 then (some ((a1.length : Int) == (a4.length : Int))) else (some false))
end
def spec_l2Here.f (k : Nat) (a0 a4 : Int) (a3 : ByteArray) (a1 : List (S30)) (a2 : List ByteArray) : Option (Bool) := if a0 = 3 then (if a0 = 5 then (spec_l2Here.j0 k false a0 a4 a3 a1 a2) else (if (a2.length : Int) > 0 then (spec_l2Here.j0 k true a0 a4 a3 a1 a2) else (if a0 = 4 then (spec_l2Here.j0 k false a0 a4 a3 a1 a2) else (spec_l2Here.j0 k (decide ((a1.length : Int) > 0)) a0 a4 a3 a1 a2)))) else (if a3.toList = ([] : List UInt8) then (if a0 = 5 then (spec_l2Here.j0 k false a0 a4 a3 a1 a2) else (if (a2.length : Int) > 0 then (spec_l2Here.j0 k true a0 a4 a3 a1 a2) else (if a0 = 4 then (spec_l2Here.j0 k false a0 a4 a3 a1 a2) else (spec_l2Here.j0 k (decide ((a1.length : Int) > 0)) a0 a4 a3 a1 a2)))) else (spec_l2Here.j0 k true a0 a4 a3 a1 a2))
theorem spec_l2Here.calls (k : Nat) (b0 a8 : Int) (b1 : ByteArray) (d4 : Option Addr) (d5 : Nat) (a9 : List (S30)) (d6 : Option Addr) (d7 : Nat) (a0 : List ByteArray) (r : Bool) (w : World) (t3 : Kd.C k30 w d4 a9.length a9) (t4 : a9.length ≤ d5) (t5 : Kd.C Kd.string w d6 a0.length a0) (t6 : a0.length ≤ d7) (h : spec_l2Here.f k b0 a8 b1 a9 a0 = some r) :
  Calls Tryd.prog 26 #[.agg #[.int .i64 b0, .int .i64 a8, .string b1, .slice d4 a9.length d5, .slice d6 a0.length d7]] w fun e w' => e = .returned (.bool r) ∧ Below w.heap.size w w' := by
 have D1 := Tryd.underlying30
 have D2 := zA t3
 have D3 := zA t4
 clear t3 t4
 have b4 := zA t5
 have D4 := zA t6
 clear t5 t6
 have HB := zA (Below.refl w.heap.size w)
 unfold spec_l2Here.f at h
 have H := h
 clear h
 have q9 := zA H
 clear H
 go_enter Tryd.func26, Tryd.ntmps26
 go_upto_region 1 with (first | ((with_reducible refine gate_dst (N := 1) rfl ?_); (try (refine gate_guard (by rfl) ?_; dsimp only)); refine box_event ?hg (N := 1) ?hd (cs := #[.int .i64 b0, .int .i64 a8, .string b1, .slice d4 a9.length d5, .slice d6 a0.length d7]) (t := 30) ?hr ?_; (case hd => rfl); (case hg => rfl); (case hr => first | (go_simp; done) | (go_simp; rfl)); intro f0 hg w3 hbox hb; have a2 := zA (hbox); have t7 := zi HB hg; have t8 := zi HB hg; replace HB := zA (below_step (zB) hb); clear hb hbox hg))
 repeat (go_quiet (first | ((with_reducible refine gate_dst (N := 1) rfl ?_); (try (refine gate_guard (by rfl) ?_; dsimp only)); refine box_event ?hg (N := 1) ?hd (cs := #[.int .i64 b0, .int .i64 a8, .string b1, .slice d4 a9.length d5, .slice d6 a0.length d7]) (t := 30) ?hr ?_; (case hd => rfl); (case hg => rfl); (case hr => first | (go_simp; done) | (go_simp; rfl)); intro f0 hg w3 hbox hb; have a2 := zA (hbox); have t7 := zi HB hg; have t8 := zi HB hg; replace HB := zA (below_step (zB) hb); clear hb hbox hg)); go_upto_region 1 with (first | ((with_reducible refine gate_dst (N := 1) rfl ?_); (try (refine gate_guard (by rfl) ?_; dsimp only)); refine box_event ?hg (N := 1) ?hd (cs := #[.int .i64 b0, .int .i64 a8, .string b1, .slice d4 a9.length d5, .slice d6 a0.length d7]) (t := 30) ?hr ?_; (case hd => rfl); (case hg => rfl); (case hr => first | (go_simp; done) | (go_simp; rfl)); intro f0 hg w3 hbox hb; have a2 := zA (hbox); have t7 := zi HB hg; have t8 := zi HB hg; replace HB := zA (below_step (zB) hb); clear hb hbox hg)))
 (try simp only [Act.put, zT])
 go_cut [38] (fun y2 wc => ∃ (kq : Nat) (r0 : Bool), y2 = .bool r0 ∧ Aside0 (spec_l2Here.j0 kq r0 b0 a8 b1 a9 a0 = some r) ∧ Aside0 (kq ≤ k) ∧ Aside0 (wc.heap[f0]? = some (.cells #[.int .i64 b0, .int .i64 a8, .string b1, (.slice d4 a9.length d5), (.slice d6 a0.length d7)] 30 (0, 0))) ∧ Aside0 (Below w.heap.size w wc))
 case first =>
  have H := q9.out; clear q9; replace H := zI1 H
  rcases H with ⟨c4, H⟩ | ⟨c4, H⟩
  ·have d8 := beq_iff_eq.mpr c4; have f2 := bne_eq_false_iff_eq.mpr c4; clear c4
   (first | rw [d8] | (simp only [i64_w, i32_w]; rw [d8]) | skip)
   replace H := zI1 H
   rcases H with ⟨c5, H⟩ | ⟨c5, H⟩
   ·have f3 := beq_iff_eq.mpr c5; have f4 := bne_eq_false_iff_eq.mpr c5; clear c5; have H' := zA H; clear H; obtain ⟨h1, h2, h3, h4, h5, h6, h7, h8, h9, i0⟩ := ze5 a2.out
    go_wp2
    repeat (go_quiet (fail); try go_wp2)
    go_meet
    case rel => exact ⟨_, (false), zS, (by first | exact H' | (subst_vars; exact H')), ⟨by first | omega | exact Nat.le_refl _⟩, ⟨zK a2.out⟩, ⟨zW HB.out⟩⟩
   have f3 := beq_eq_false_iff_ne.mpr c5; have f4 := bne_iff_ne.mpr c5; replace H := zI1 H
   rcases H with ⟨c7, H⟩ | ⟨c7, H⟩
   ·have f5 : decide (0 < (a0.length : Int)) = true := decide_eq_true c7; have f6 : decide (0 < a0.length) = true := decide_eq_true (by omega); clear c7; have H' := zA H; clear H; obtain ⟨i1, i2, i3, i4, i5, i6, i7, i8, i9, j3⟩ := ze5 a2.out
    go_wp2
    repeat (go_quiet (fail); try go_wp2)
    go_meet
    case rel => exact ⟨_, (true), zS, (by first | exact H' | (subst_vars; exact H')), ⟨by first | omega | exact Nat.le_refl _⟩, ⟨zK a2.out⟩, ⟨zW HB.out⟩⟩
   have f5 : decide (0 < (a0.length : Int)) = false := decide_eq_false c7; have f6 : decide (0 < a0.length) = false := decide_eq_false (by omega); clear c7; replace H := zI1 H
   rcases H with ⟨c9, H⟩ | ⟨c9, H⟩
   ·have f7 := beq_iff_eq.mpr c9; have f8 := bne_eq_false_iff_eq.mpr c9; clear c9; have H' := zA H; clear H; obtain ⟨j4, j5, j6, j7, j8, j9, k0, k1, k2, k3⟩ := ze5 a2.out
    go_wp2
    repeat (go_quiet (fail); try go_wp2)
    go_meet
    case rel => exact ⟨_, (false), zS, (by first | exact H' | (subst_vars; exact H')), ⟨by first | omega | exact Nat.le_refl _⟩, ⟨zK a2.out⟩, ⟨zW HB.out⟩⟩
   have f7 := beq_eq_false_iff_ne.mpr c9; have f8 := bne_iff_ne.mpr c9; have H' := zA H; clear H; obtain ⟨k5, k6, k7, k8, k9, l1, l2, l3, l4, l5⟩ := ze5 a2.out
   go_wp2
   repeat (go_quiet (fail); try go_wp2)
   go_meet
   case rel => exact ⟨_, (decide ((a9.length : Int) > 0)), zS, (by first | exact H' | (subst_vars; exact H')), ⟨by first | omega | exact Nat.le_refl _⟩, ⟨zK a2.out⟩, ⟨zW HB.out⟩⟩
  have d8 := beq_eq_false_iff_ne.mpr c4; have f2 := bne_iff_ne.mpr c4
  (first | rw [d8] | (simp only [i64_w, i32_w]; rw [d8]) | skip)
  replace H := zI1 H
  rcases H with ⟨d1, H⟩ | ⟨d1, H⟩
  ·have f9 := beq_iff_eq.mpr d1; have g0 := bne_eq_false_iff_eq.mpr d1; clear d1; replace H := zI1 H
   rcases H with ⟨d2, H⟩ | ⟨d2, H⟩
   ·have g1 := beq_iff_eq.mpr d2; have g2 := bne_eq_false_iff_eq.mpr d2; clear d2; have H' := zA H; clear H; obtain ⟨l6, l7, l8, l9, m0, m1, m2, m3, m4, m5⟩ := ze5 a2.out
    go_wp2
    repeat (go_quiet (fail); try go_wp2)
    go_meet
    case rel => exact ⟨_, (false), zS, (by first | exact H' | (subst_vars; exact H')), ⟨by first | omega | exact Nat.le_refl _⟩, ⟨zK a2.out⟩, ⟨zW HB.out⟩⟩
   have g1 := beq_eq_false_iff_ne.mpr d2; have g2 := bne_iff_ne.mpr d2; replace H := zI1 H
   rcases H with ⟨d9, H⟩ | ⟨d9, H⟩
   ·have g3 : decide (0 < (a0.length : Int)) = true := decide_eq_true d9; have g4 : decide (0 < a0.length) = true := decide_eq_true (by omega); clear d9; have H' := zA H; clear H; obtain ⟨m6, m7, m8, m9, n0, n1, n2, n3, n4, n5⟩ := ze5 a2.out
    go_wp2
    repeat (go_quiet (fail); try go_wp2)
    go_meet
    case rel => exact ⟨_, (true), zS, (by first | exact H' | (subst_vars; exact H')), ⟨by first | omega | exact Nat.le_refl _⟩, ⟨zK a2.out⟩, ⟨zW HB.out⟩⟩
   have g3 : decide (0 < (a0.length : Int)) = false := decide_eq_false d9; have g4 : decide (0 < a0.length) = false := decide_eq_false (by omega); clear d9; replace H := zI1 H
   rcases H with ⟨d3, H⟩ | ⟨d3, H⟩
   ·have g5 := beq_iff_eq.mpr d3; have g6 := bne_eq_false_iff_eq.mpr d3; clear d3; have H' := zA H; clear H; obtain ⟨n6, n7, n8, n9, o0, o1, o2, o3, o4, o5⟩ := ze5 a2.out
    go_wp2
    repeat (go_quiet (fail); try go_wp2)
    go_meet
    case rel => exact ⟨_, (false), zS, (by first | exact H' | (subst_vars; exact H')), ⟨by first | omega | exact Nat.le_refl _⟩, ⟨zK a2.out⟩, ⟨zW HB.out⟩⟩
   have g5 := beq_eq_false_iff_ne.mpr d3; have g6 := bne_iff_ne.mpr d3; have H' := zA H; clear H; obtain ⟨o6, o7, o8, o9, p0, p1, p3, p4, p5, p6⟩ := ze5 a2.out
   go_wp2
   repeat (go_quiet (fail); try go_wp2)
   go_meet
   case rel => exact ⟨_, (decide ((a9.length : Int) > 0)), zS, (by first | exact H' | (subst_vars; exact H')), ⟨by first | omega | exact Nat.le_refl _⟩, ⟨zK a2.out⟩, ⟨zW HB.out⟩⟩
  have f9 := beq_eq_false_iff_ne.mpr d1; have g0 := bne_iff_ne.mpr d1; have H' := zA H; clear H; obtain ⟨p7, p8, p9, q0, q1, q2, q3, q4, q5, q6⟩ := ze5 a2.out
  go_wp2
  repeat (go_quiet (fail); try go_wp2)
  go_meet
  case rel => exact ⟨_, (true), zS, (by first | exact H' | (subst_vars; exact H')), ⟨by first | omega | exact Nat.le_refl _⟩, ⟨zK a2.out⟩, ⟨zW HB.out⟩⟩
 case rest =>
  clear q9
  try clear c1
  try clear c2
  try clear p2
  try clear c4
  try clear d8
  try clear f2
  try clear c5
  try clear f3
  try clear f4
  try clear c7
  try clear f5
  try clear f6
  try clear c9
  try clear f7
  try clear f8
  try clear d1
  try clear f9
  try clear g0
  try clear d2
  try clear g1
  try clear g2
  try clear d9
  try clear g3
  try clear g4
  try clear d3
  try clear g5
  try clear g6
  try clear j4 j5 j6 j7 j8 j9 k0 k1 k2 k3
  try clear k5 k6 k7 k8 k9 l1 l2 l3 l4 l5
  try clear l6 l7 l8 l9 m0 m1 m2 m3 m4 m5
  try clear m6 m7 m8 m9 n0 n1 n2 n3 n4 n5
  try clear n6 n7 n8 n9 o0 o1 o2 o3 o4 o5
  try clear o6 o7 o8 o9 p0 p1 p3 p4 p5 p6
  try clear p7 p8 p9 q0 q1 q2 q3 q4 q5 q6
  try clear h1 h2 h3 h4 h5 h6 h7 h8 h9 i0
  try clear i1 i2 i3 i4 i5 i6 i7 i8 i9 j3
  obtain ⟨kq, r0, rfl, HA, e0, a2, HB⟩ := hcut
  cases kq with
  | zero => exact absurd HA.out (by simp [spec_l2Here.j0])
  | succ y3 =>
   have H := HA.out; clear HA; simp only [spec_l2Here.j0] at H; have r1 := zA H; clear H
   go_upto_if 38 with (fail)
   repeat (go_quiet (fail); go_upto_if 38 with (fail))
   go_cut [] (fun wc => ∃ (kq : Nat), Aside0 (spec_l2Here.j1 kq b0 a8 b1 a9 a0 = some r) ∧ Aside0 (kq ≤ y3) ∧ Aside0 (wc.heap[f0]? = some (.cells #[.int .i64 b0, .int .i64 a8, .string b1, (.slice d4 a9.length d5), (.slice d6 a0.length d7)] 30 (0, 0))) ∧ Aside0 (Below w.heap.size w wc))
   case first =>
    have H := r1.out; clear r1; replace H := zB0 H
    rcases H with ⟨rfl, H⟩ | ⟨rfl, H⟩
    ·obtain rfl := zm H
     go_wp2
     repeat (go_quiet (fail); try go_wp2)
     go_ret
     exact ⟨zE, zW HB.out⟩
    have H' := zA H; clear H
    go_wp2
    repeat (go_quiet (fail); try go_wp2)
    go_meet
    case rel => exact ⟨_, (by first | exact H' | (subst_vars; exact H')), ⟨by have := e0.out; first | omega | exact Nat.le_refl _⟩, ⟨zK a2.out⟩, ⟨zW HB.out⟩⟩
   case rest =>
    clear r1
    try clear c1
    try clear c2
    try clear p2
    try clear c4
    try clear d8
    try clear f2
    try clear c5
    try clear f3
    try clear f4
    try clear c7
    try clear f5
    try clear f6
    try clear c9
    try clear f7
    try clear f8
    try clear d1
    try clear f9
    try clear g0
    try clear d2
    try clear g1
    try clear g2
    try clear d9
    try clear g3
    try clear g4
    try clear d3
    try clear g5
    try clear g6
    try clear c22
    try clear j4 j5 j6 j7 j8 j9 k0 k1 k2 k3
    try clear k5 k6 k7 k8 k9 l1 l2 l3 l4 l5
    try clear l6 l7 l8 l9 m0 m1 m2 m3 m4 m5
    try clear m6 m7 m8 m9 n0 n1 n2 n3 n4 n5
    try clear n6 n7 n8 n9 o0 o1 o2 o3 o4 o5
    try clear o6 o7 o8 o9 p0 p1 p3 p4 p5 p6
    try clear p7 p8 p9 q0 q1 q2 q3 q4 q5 q6
    try clear h1 h2 h3 h4 h5 h6 h7 h8 h9 i0
    try clear i1 i2 i3 i4 i5 i6 i7 i8 i9 j3
    try clear p2
    obtain ⟨kq, HA, e3, a2, HB⟩ := hcut
    cases kq with
    | zero => exact absurd HA.out (by simp [spec_l2Here.j1])
    | succ y4 =>
     have H := HA.out; clear HA; simp only [spec_l2Here.j1] at H; have r2 := zA H; clear H; obtain ⟨t9, v0, v1, v2, v4, v5, v6, v7, v8, v9⟩ := ze5 a2.out
     go_upto_if 41 with (fail)
     repeat (go_quiet (fail); go_upto_if 41 with (fail))
     go_cut [41] (fun y5 wc => ∃ (kq : Nat) (r3 : Bool), y5 = .bool r3 ∧ Aside0 (spec_l2Here.j2 kq b0 r3 b0 a8 b1 a9 a0 = some r) ∧ Aside0 (kq ≤ y4) ∧ Aside0 (wc.heap[f0]? = some (.cells #[.int .i64 b0, .int .i64 a8, .string b1, (.slice d4 a9.length d5), (.slice d6 a0.length d7)] 30 (0, 0))) ∧ Aside0 (Below w.heap.size w wc))
     case first =>
      have H := r2.out; clear r2; replace H := zI1 H
      rcases H with ⟨e1, H⟩ | ⟨e1, H⟩
      ·have e4 := beq_iff_eq.mpr e1; have r4 := bne_eq_false_iff_eq.mpr e1; clear e1
       (first | rw [e4] | (simp only [i64_w, i32_w]; rw [e4]) | skip)
       have H' := zA H; clear H
       go_wp2
       repeat (go_quiet (fail); try go_wp2)
       go_meet
       case rel => exact ⟨_, ((b0 == 0)), zS, (by first | exact H' | (subst_vars; exact H')), ⟨by have := e0.out; have := e3.out; first | omega | exact Nat.le_refl _⟩, ⟨zK a2.out⟩, ⟨zW HB.out⟩⟩
      have e4 := beq_eq_false_iff_ne.mpr e1; have r4 := bne_iff_ne.mpr e1
      (first | rw [e4] | (simp only [i64_w, i32_w]; rw [e4]) | skip)
      replace H := zI1 H
      rcases H with ⟨e2, H⟩ | ⟨e2, H⟩
      ·have r5 := beq_iff_eq.mpr e2; have r6 := bne_eq_false_iff_eq.mpr e2; clear e2; have H' := zA H; clear H
       go_wp2
       repeat (go_quiet (fail); try go_wp2)
       go_meet
       case rel => exact ⟨_, ((b0 == 3)), zS, (by first | exact H' | (subst_vars; exact H')), ⟨by have := e0.out; have := e3.out; first | omega | exact Nat.le_refl _⟩, ⟨zK a2.out⟩, ⟨zW HB.out⟩⟩
      have r5 := beq_eq_false_iff_ne.mpr e2; have r6 := bne_iff_ne.mpr e2; have H' := zA H; clear H
      go_wp2
      repeat (go_quiet (fail); try go_wp2)
      go_meet
      case rel => exact ⟨_, ((b0 == 4)), zS, (by first | exact H' | (subst_vars; exact H')), ⟨by have := e0.out; have := e3.out; first | omega | exact Nat.le_refl _⟩, ⟨zK a2.out⟩, ⟨zW HB.out⟩⟩
     case rest =>
      clear r2
      try clear c1
      try clear c2
      try clear p2
      try clear c4
      try clear d8
      try clear f2
      try clear c5
      try clear f3
      try clear f4
      try clear c7
      try clear f5
      try clear f6
      try clear c9
      try clear f7
      try clear f8
      try clear d1
      try clear f9
      try clear g0
      try clear d2
      try clear g1
      try clear g2
      try clear d9
      try clear g3
      try clear g4
      try clear d3
      try clear g5
      try clear g6
      try clear c22
      try clear e1
      try clear e4
      try clear r4
      try clear e2
      try clear r5
      try clear r6
      try clear j4 j5 j6 j7 j8 j9 k0 k1 k2 k3
      try clear k5 k6 k7 k8 k9 l1 l2 l3 l4 l5
      try clear l6 l7 l8 l9 m0 m1 m2 m3 m4 m5
      try clear m6 m7 m8 m9 n0 n1 n2 n3 n4 n5
      try clear n6 n7 n8 n9 o0 o1 o2 o3 o4 o5
      try clear o6 o7 o8 o9 p0 p1 p3 p4 p5 p6
      try clear p7 p8 p9 q0 q1 q2 q3 q4 q5 q6
      try clear t9 v0 v1 v2 v4 v5 v6 v7 v8 v9
      try clear h1 h2 h3 h4 h5 h6 h7 h8 h9 i0
      try clear i1 i2 i3 i4 i5 i6 i7 i8 i9 j3
      try clear p2
      obtain ⟨kq, r3, rfl, HA, q7, a2, HB⟩ := hcut
      cases kq with
      | zero => exact absurd HA.out (by simp [spec_l2Here.j2])
      | succ g7 =>
       have H := HA.out; clear HA; simp only [spec_l2Here.j2] at H; replace H := zB0 H
       rcases H with ⟨rfl, H⟩ | ⟨rfl, H⟩
       ·replace H := zI1 H
        rcases H with ⟨e5, H⟩ | ⟨e5, H⟩
        ·have x0 := beq_iff_eq.mpr e5; have x1 := bne_eq_false_iff_eq.mpr e5; clear e5; replace H := Option.bind_eq_some_iff.mp H; obtain ⟨r7, x2, H⟩ := H
         try dsimp only at H
         have r8 := zA x2; clear x2; obtain rfl := zm H; obtain ⟨y6, y7, y8, y9, z0, z1, z2, z3, z4, z5⟩ := ze5 a2.out
         go_wp2_with (first | (go_at_call 34; (with_reducible refine (spec_l2Text.calls g7 b1 r7 _ r8.out).mono ?_); rintro e w' ⟨rfl, ⟨nd, rfl⟩⟩; (try first | exact ⟨rfl, _, World.drewN_drewN _ _ _⟩ | exact ⟨rfl, _, Eq.trans (World.drewN_drewN _ _ _) (congrArg (World.drewN _) (Nat.add_assoc _ _ _))⟩)))
         repeat (go_quiet (first | (go_at_call 34; (with_reducible refine (spec_l2Text.calls g7 b1 r7 _ r8.out).mono ?_); rintro e w' ⟨rfl, ⟨nd, rfl⟩⟩; (try first | exact ⟨rfl, _, World.drewN_drewN _ _ _⟩ | exact ⟨rfl, _, Eq.trans (World.drewN_drewN _ _ _) (congrArg (World.drewN _) (Nat.add_assoc _ _ _))⟩))); try go_wp2_with (first | (go_at_call 34; (with_reducible refine (spec_l2Text.calls g7 b1 r7 _ r8.out).mono ?_); rintro e w' ⟨rfl, ⟨nd, rfl⟩⟩; (try first | exact ⟨rfl, _, World.drewN_drewN _ _ _⟩ | exact ⟨rfl, _, Eq.trans (World.drewN_drewN _ _ _) (congrArg (World.drewN _) (Nat.add_assoc _ _ _))⟩))))
         go_ret
         exact ⟨zE, zW HB.out⟩
        have x0 := beq_eq_false_iff_ne.mpr e5; have x1 := bne_iff_ne.mpr e5; obtain rfl := zm H; obtain ⟨z6, z7, z8, z9, A0, A1, A2, A3, A4, A5⟩ := ze5 a2.out
        go_wp2
        repeat (go_quiet (fail); try go_wp2)
        go_ret
        exact ⟨zE, zW HB.out⟩
       replace H := zI1 H
       rcases H with ⟨e6, H⟩ | ⟨e6, H⟩
       ·have x3 := beq_iff_eq.mpr e6; have x4 := bne_eq_false_iff_eq.mpr e6; clear e6; replace H := Option.bind_eq_some_iff.mp H; obtain ⟨r9, x5, H⟩ := H
        try dsimp only at H
        have t0 := zA x5; clear x5; obtain rfl := zm H; obtain ⟨A6, A7, A8, A9, B0, B1, B2, B3, B4, B5⟩ := ze5 a2.out
        go_wp2_with (first | (go_at_call 35; (with_reducible refine (spec_l1In.calls a8 0 1 r9 _ t0.out).mono ?_); rintro e w' ⟨rfl, ⟨nd, rfl⟩⟩; (try first | exact ⟨rfl, _, World.drewN_drewN _ _ _⟩ | exact ⟨rfl, _, Eq.trans (World.drewN_drewN _ _ _) (congrArg (World.drewN _) (Nat.add_assoc _ _ _))⟩)))
        repeat (go_quiet (first | (go_at_call 35; (with_reducible refine (spec_l1In.calls a8 0 1 r9 _ t0.out).mono ?_); rintro e w' ⟨rfl, ⟨nd, rfl⟩⟩; (try first | exact ⟨rfl, _, World.drewN_drewN _ _ _⟩ | exact ⟨rfl, _, Eq.trans (World.drewN_drewN _ _ _) (congrArg (World.drewN _) (Nat.add_assoc _ _ _))⟩))); try go_wp2_with (first | (go_at_call 35; (with_reducible refine (spec_l1In.calls a8 0 1 r9 _ t0.out).mono ?_); rintro e w' ⟨rfl, ⟨nd, rfl⟩⟩; (try first | exact ⟨rfl, _, World.drewN_drewN _ _ _⟩ | exact ⟨rfl, _, Eq.trans (World.drewN_drewN _ _ _) (congrArg (World.drewN _) (Nat.add_assoc _ _ _))⟩))))
        go_ret
        exact ⟨zE, zW HB.out⟩
       have x3 := beq_eq_false_iff_ne.mpr e6; have x4 := bne_iff_ne.mpr e6; replace H := zI1 H
       rcases H with ⟨e7, H⟩ | ⟨e7, H⟩
       ·have x6 := beq_iff_eq.mpr e7; have x7 := bne_eq_false_iff_eq.mpr e7; clear e7; replace H := Option.bind_eq_some_iff.mp H; obtain ⟨t1, x8, H⟩ := H
        try dsimp only at H
        have t2 := zA x8; clear x8; obtain rfl := zm H; obtain ⟨B6, B7, B8, B9, C0, C1, C2, C3, C4, C5⟩ := ze5 a2.out
        go_wp2_with (first | (go_at_call 35; (with_reducible refine (spec_l1In.calls a8 (-999999) 999999 t1 _ t2.out).mono ?_); rintro e w' ⟨rfl, ⟨nd, rfl⟩⟩; (try first | exact ⟨rfl, _, World.drewN_drewN _ _ _⟩ | exact ⟨rfl, _, Eq.trans (World.drewN_drewN _ _ _) (congrArg (World.drewN _) (Nat.add_assoc _ _ _))⟩)))
        repeat (go_quiet (first | (go_at_call 35; (with_reducible refine (spec_l1In.calls a8 (-999999) 999999 t1 _ t2.out).mono ?_); rintro e w' ⟨rfl, ⟨nd, rfl⟩⟩; (try first | exact ⟨rfl, _, World.drewN_drewN _ _ _⟩ | exact ⟨rfl, _, Eq.trans (World.drewN_drewN _ _ _) (congrArg (World.drewN _) (Nat.add_assoc _ _ _))⟩))); try go_wp2_with (first | (go_at_call 35; (with_reducible refine (spec_l1In.calls a8 (-999999) 999999 t1 _ t2.out).mono ?_); rintro e w' ⟨rfl, ⟨nd, rfl⟩⟩; (try first | exact ⟨rfl, _, World.drewN_drewN _ _ _⟩ | exact ⟨rfl, _, Eq.trans (World.drewN_drewN _ _ _) (congrArg (World.drewN _) (Nat.add_assoc _ _ _))⟩))))
        go_ret
        exact ⟨zE, zW HB.out⟩
       have x6 := beq_eq_false_iff_ne.mpr e7; have x7 := bne_iff_ne.mpr e7; replace H := zI1 H
       rcases H with ⟨e8, H⟩ | ⟨e8, H⟩
       ·have x9 := beq_iff_eq.mpr e8; have y0 := bne_eq_false_iff_eq.mpr e8; clear e8; have H' := zA H; clear H
        go_wp2
        repeat (go_quiet (fail); try go_wp2)
        go_loopg [3] g7 (fun kq v3 w' => ∃ (a1 : Int), v3 = .int .i64 a1 ∧ Aside0 (spec_l2Here.l0 kq a1 b0 a8 b1 a9 a0 = some r) ∧ Aside0 (kq ≤ g7) ∧ Aside0 (w'.heap[f0]? = some (.cells #[.int .i64 b0, .int .i64 a8, .string b1, (.slice d4 a9.length d5), (.slice d6 a0.length d7)] 30 (0, 0))) ∧ Aside0 (Below w.heap.size w w'))
        case atStart => exact ⟨(0), zS, H', ⟨Nat.le_refl _⟩, ⟨zK a2.out⟩, ⟨zW HB.out⟩⟩
        case round =>
         clear H'
         try clear c1
         try clear c2
         try clear p2
         try clear c3
         try clear c4
         try clear d8
         try clear f2
         try clear c5
         try clear f3
         try clear f4
         try clear c7
         try clear f5
         try clear f6
         try clear c9
         try clear f7
         try clear f8
         try clear d1
         try clear f9
         try clear g0
         try clear d2
         try clear g1
         try clear g2
         try clear d9
         try clear g3
         try clear g4
         try clear d3
         try clear g5
         try clear g6
         try clear c22
         try clear e1
         try clear e4
         try clear r4
         try clear e2
         try clear r5
         try clear r6
         try clear c27
         try clear e5
         try clear x0
         try clear x1
         try clear e6
         try clear x3
         try clear x4
         try clear e7
         try clear x6
         try clear x7
         try clear e8
         try clear x9
         try clear y0
         try clear j4 j5 j6 j7 j8 j9 k0 k1 k2 k3
         try clear k5 k6 k7 k8 k9 l1 l2 l3 l4 l5
         try clear l6 l7 l8 l9 m0 m1 m2 m3 m4 m5
         try clear m6 m7 m8 m9 n0 n1 n2 n3 n4 n5
         try clear n6 n7 n8 n9 o0 o1 o2 o3 o4 o5
         try clear o6 o7 o8 o9 p0 p1 p3 p4 p5 p6
         try clear p7 p8 p9 q0 q1 q2 q3 q4 q5 q6
         try clear t9 v0 v1 v2 v4 v5 v6 v7 v8 v9
         try clear y6 y7 y8 y9 z0 z1 z2 z3 z4 z5
         try clear z6 z7 z8 z9 A0 A1 A2 A3 A4 A5
         try clear A6 A7 A8 A9 B0 B1 B2 B3 B4 B5
         try clear B6 B7 B8 B9 C0 C1 C2 C3 C4 C5
         try clear h1 h2 h3 h4 h5 h6 h7 h8 h9 i0
         try clear i1 i2 i3 i4 i5 i6 i7 i8 i9 j3
         try clear p2
         obtain ⟨a1, rfl, HA, q8, a2, HB⟩ := hrel
         cases gk with
         | zero => exact absurd HA.out (by simp [spec_l2Here.l0])
         | succ k4 =>
          have H := HA.out; clear HA; simp only [spec_l2Here.l0] at H; replace H := zI0 H
          rcases H with ⟨C6, H⟩ | ⟨C6, H⟩
          ·replace H := zD0 H; obtain ⟨D5, H⟩ := H; replace H := Option.bind_eq_some_iff.mp H; obtain ⟨D6, y1, H⟩ := H
           try dsimp only at H
           have b8 := zA y1; clear y1; replace H := zB0 H
           rcases H with ⟨rfl, H⟩ | ⟨rfl, H⟩
           ·replace H := zI1 H
            rcases H with ⟨g8, H⟩ | ⟨g8, H⟩
            ·have C7 : decide (0 < a1) = true := decide_eq_true g8; clear g8; obtain ⟨a3, g9⟩ : ∃ j_ : Int, (wrap64 (a1 - 1)) = j_ := ⟨_, rfl⟩
             replace H : (if 0 ≤ (a3) then (if (a3) < (a0.length : Int) then (if ((Op.bytesLess ((rdOf ByteArray.empty a0 (a3)).toList) ((rdOf ByteArray.empty a0 a1).toList)) = true) then (spec_l2Here.l0 k4 (wrap64 (a1 + 1)) b0 a8 b1 a9 a0) else (some false)) else (none)) else (none)) = some r := by first | (rw [g9] at H; exact H) | (simp only [g9] at H ⊢; exact H)
             (try rw [g9] at b8)
             have hji44w : (IntKind.i64.wrap (a1 - 1)) = a3 := (i64_w _).trans g9; replace H := zD0 H; obtain ⟨D7, H⟩ := H; replace H := zD0 H; obtain ⟨D8, H⟩ := H; replace H := zI1 H
             rcases H with ⟨h0, H⟩ | ⟨h0, H⟩
             ·have C8 : (Op.bytesLess ((rdOf ByteArray.empty a0 (a3)).toList) ((rdOf ByteArray.empty a0 a1).toList)) = true := h0; clear h0; have H' := zA H; clear H; obtain ⟨D9, E0, E1, E2, E3, E4, E5, E6, E7, E8⟩ := ze5 a2.out; have b5 : 0 ≤ (a1 : Int) := zD; have b6 : a1 < (a0.length : Int) := zD; obtain ⟨b7, e9, b9⟩ := Kd.at_string b4.out a1 b5 b6; cases e9; replace b9 := zx HB b9; replace b5 := eq_true b5; replace b6 := eq_true b6
              go_wp2_with (first | (go_at_call 34; (with_reducible refine (spec_l2Text.calls k4 (rdOf ByteArray.empty a0 a1) true _ b8.out).mono ?_); rintro e w' ⟨rfl, ⟨nd, rfl⟩⟩; (try first | exact ⟨rfl, _, World.drewN_drewN _ _ _⟩ | exact ⟨rfl, _, Eq.trans (World.drewN_drewN _ _ _) (congrArg (World.drewN _) (Nat.add_assoc _ _ _))⟩); have a4 : 0 ≤ ((a3) : Int) := zD; have a5 : (a3) < (a0.length : Int) := zD; obtain ⟨c0, c6, b2⟩ := Kd.at_string b4.out (a3) a4 a5; obtain rfl : b7 = c0 := (by injection c6); replace b2 := zx HB b2; replace a4 := eq_true a4; replace a5 := eq_true a5; have a6 : 0 ≤ (a1 : Int) := zD; have a7 : a1 < (a0.length : Int) := zD; obtain ⟨c8, d0, b3⟩ := Kd.at_string b4.out a1 a6 a7; obtain rfl : b7 = c8 := (by injection d0); replace b3 := zx HB b3; replace a6 := eq_true a6; replace a7 := eq_true a7))
              repeat (go_quiet (first | (go_at_call 34; (with_reducible refine (spec_l2Text.calls k4 (rdOf ByteArray.empty a0 a1) true _ b8.out).mono ?_); rintro e w' ⟨rfl, ⟨nd, rfl⟩⟩; (try first | exact ⟨rfl, _, World.drewN_drewN _ _ _⟩ | exact ⟨rfl, _, Eq.trans (World.drewN_drewN _ _ _) (congrArg (World.drewN _) (Nat.add_assoc _ _ _))⟩); have a4 : 0 ≤ ((a3) : Int) := zD; have a5 : (a3) < (a0.length : Int) := zD; obtain ⟨c0, c6, b2⟩ := Kd.at_string b4.out (a3) a4 a5; obtain rfl : b7 = c0 := (by injection c6); replace b2 := zx HB b2; replace a4 := eq_true a4; replace a5 := eq_true a5; have a6 : 0 ≤ (a1 : Int) := zD; have a7 : a1 < (a0.length : Int) := zD; obtain ⟨c8, d0, b3⟩ := Kd.at_string b4.out a1 a6 a7; obtain rfl : b7 = c8 := (by injection d0); replace b3 := zx HB b3; replace a6 := eq_true a6; replace a7 := eq_true a7)); try go_wp2_with (first | (go_at_call 34; (with_reducible refine (spec_l2Text.calls k4 (rdOf ByteArray.empty a0 a1) true _ b8.out).mono ?_); rintro e w' ⟨rfl, ⟨nd, rfl⟩⟩; (try first | exact ⟨rfl, _, World.drewN_drewN _ _ _⟩ | exact ⟨rfl, _, Eq.trans (World.drewN_drewN _ _ _) (congrArg (World.drewN _) (Nat.add_assoc _ _ _))⟩); have a4 : 0 ≤ ((a3) : Int) := zD; have a5 : (a3) < (a0.length : Int) := zD; obtain ⟨c0, c6, b2⟩ := Kd.at_string b4.out (a3) a4 a5; obtain rfl : b7 = c0 := (by injection c6); replace b2 := zx HB b2; replace a4 := eq_true a4; replace a5 := eq_true a5; have a6 : 0 ≤ (a1 : Int) := zD; have a7 : a1 < (a0.length : Int) := zD; obtain ⟨c8, d0, b3⟩ := Kd.at_string b4.out a1 a6 a7; obtain rfl : b7 = c8 := (by injection d0); replace b3 := zx HB b3; replace a6 := eq_true a6; replace a7 := eq_true a7)))
              go_roundg k4
              case measure => have := e0.out; have := e3.out; have := q7.out; have := q8.out; omega
              case rel => exact ⟨(wrap64 (a1 + 1)), zS, H', ⟨by have := e0.out; have := e3.out; have := q7.out; have := q8.out; omega⟩, ⟨zK a2.out⟩, ⟨zW HB.out⟩⟩
             have C8 : (Op.bytesLess ((rdOf ByteArray.empty a0 (a3)).toList) ((rdOf ByteArray.empty a0 a1).toList)) = false := by simpa using h0
             clear h0; obtain rfl := zm H; obtain ⟨E9, F0, F1, F2, F3, F4, F5, F6, F7, F8⟩ := ze5 a2.out; have b5 : 0 ≤ (a1 : Int) := zD; have b6 : a1 < (a0.length : Int) := zD; obtain ⟨b7, e9, b9⟩ := Kd.at_string b4.out a1 b5 b6; cases e9; replace b9 := zx HB b9; replace b5 := eq_true b5; replace b6 := eq_true b6
             go_wp2_with (first | (go_at_call 34; (with_reducible refine (spec_l2Text.calls k4 (rdOf ByteArray.empty a0 a1) true _ b8.out).mono ?_); rintro e w' ⟨rfl, ⟨nd, rfl⟩⟩; (try first | exact ⟨rfl, _, World.drewN_drewN _ _ _⟩ | exact ⟨rfl, _, Eq.trans (World.drewN_drewN _ _ _) (congrArg (World.drewN _) (Nat.add_assoc _ _ _))⟩); have a4 : 0 ≤ ((a3) : Int) := zD; have a5 : (a3) < (a0.length : Int) := zD; obtain ⟨c0, c6, b2⟩ := Kd.at_string b4.out (a3) a4 a5; obtain rfl : b7 = c0 := (by injection c6); replace b2 := zx HB b2; replace a4 := eq_true a4; replace a5 := eq_true a5; have a6 : 0 ≤ (a1 : Int) := zD; have a7 : a1 < (a0.length : Int) := zD; obtain ⟨c8, d0, b3⟩ := Kd.at_string b4.out a1 a6 a7; obtain rfl : b7 = c8 := (by injection d0); replace b3 := zx HB b3; replace a6 := eq_true a6; replace a7 := eq_true a7))
             repeat (go_quiet (first | (go_at_call 34; (with_reducible refine (spec_l2Text.calls k4 (rdOf ByteArray.empty a0 a1) true _ b8.out).mono ?_); rintro e w' ⟨rfl, ⟨nd, rfl⟩⟩; (try first | exact ⟨rfl, _, World.drewN_drewN _ _ _⟩ | exact ⟨rfl, _, Eq.trans (World.drewN_drewN _ _ _) (congrArg (World.drewN _) (Nat.add_assoc _ _ _))⟩); have a4 : 0 ≤ ((a3) : Int) := zD; have a5 : (a3) < (a0.length : Int) := zD; obtain ⟨c0, c6, b2⟩ := Kd.at_string b4.out (a3) a4 a5; obtain rfl : b7 = c0 := (by injection c6); replace b2 := zx HB b2; replace a4 := eq_true a4; replace a5 := eq_true a5; have a6 : 0 ≤ (a1 : Int) := zD; have a7 : a1 < (a0.length : Int) := zD; obtain ⟨c8, d0, b3⟩ := Kd.at_string b4.out a1 a6 a7; obtain rfl : b7 = c8 := (by injection d0); replace b3 := zx HB b3; replace a6 := eq_true a6; replace a7 := eq_true a7)); try go_wp2_with (first | (go_at_call 34; (with_reducible refine (spec_l2Text.calls k4 (rdOf ByteArray.empty a0 a1) true _ b8.out).mono ?_); rintro e w' ⟨rfl, ⟨nd, rfl⟩⟩; (try first | exact ⟨rfl, _, World.drewN_drewN _ _ _⟩ | exact ⟨rfl, _, Eq.trans (World.drewN_drewN _ _ _) (congrArg (World.drewN _) (Nat.add_assoc _ _ _))⟩); have a4 : 0 ≤ ((a3) : Int) := zD; have a5 : (a3) < (a0.length : Int) := zD; obtain ⟨c0, c6, b2⟩ := Kd.at_string b4.out (a3) a4 a5; obtain rfl : b7 = c0 := (by injection c6); replace b2 := zx HB b2; replace a4 := eq_true a4; replace a5 := eq_true a5; have a6 : 0 ≤ (a1 : Int) := zD; have a7 : a1 < (a0.length : Int) := zD; obtain ⟨c8, d0, b3⟩ := Kd.at_string b4.out a1 a6 a7; obtain rfl : b7 = c8 := (by injection d0); replace b3 := zx HB b3; replace a6 := eq_true a6; replace a7 := eq_true a7)))
             go_ret
             exact ⟨by first | rfl | (simp [errW_none, errW_some] <;> rfl) | (simp only [← g9]; first | rfl | (simp [errW_none, errW_some] <;> rfl)) | (simp [*, errW_none, errW_some] <;> rfl), zW HB.out⟩
            have C7 : decide (0 < a1) = false := decide_eq_false g8; clear g8; have H' := zA H; clear H; obtain ⟨F9, G0, G1, G2, G3, G4, G5, G6, G7, G8⟩ := ze5 a2.out; have b5 : 0 ≤ (a1 : Int) := zD; have b6 : a1 < (a0.length : Int) := zD; obtain ⟨b7, e9, b9⟩ := Kd.at_string b4.out a1 b5 b6; cases e9; replace b9 := zx HB b9; replace b5 := eq_true b5; replace b6 := eq_true b6
            go_wp2_with (first | (go_at_call 34; (with_reducible refine (spec_l2Text.calls k4 (rdOf ByteArray.empty a0 a1) true _ b8.out).mono ?_); rintro e w' ⟨rfl, ⟨nd, rfl⟩⟩; (try first | exact ⟨rfl, _, World.drewN_drewN _ _ _⟩ | exact ⟨rfl, _, Eq.trans (World.drewN_drewN _ _ _) (congrArg (World.drewN _) (Nat.add_assoc _ _ _))⟩)))
            repeat (go_quiet (first | (go_at_call 34; (with_reducible refine (spec_l2Text.calls k4 (rdOf ByteArray.empty a0 a1) true _ b8.out).mono ?_); rintro e w' ⟨rfl, ⟨nd, rfl⟩⟩; (try first | exact ⟨rfl, _, World.drewN_drewN _ _ _⟩ | exact ⟨rfl, _, Eq.trans (World.drewN_drewN _ _ _) (congrArg (World.drewN _) (Nat.add_assoc _ _ _))⟩))); try go_wp2_with (first | (go_at_call 34; (with_reducible refine (spec_l2Text.calls k4 (rdOf ByteArray.empty a0 a1) true _ b8.out).mono ?_); rintro e w' ⟨rfl, ⟨nd, rfl⟩⟩; (try first | exact ⟨rfl, _, World.drewN_drewN _ _ _⟩ | exact ⟨rfl, _, Eq.trans (World.drewN_drewN _ _ _) (congrArg (World.drewN _) (Nat.add_assoc _ _ _))⟩))))
            go_roundg k4
            case measure => have := e0.out; have := e3.out; have := q7.out; have := q8.out; omega
            case rel => exact ⟨(wrap64 (a1 + 1)), zS, H', ⟨by have := e0.out; have := e3.out; have := q7.out; have := q8.out; omega⟩, ⟨zK a2.out⟩, ⟨zW HB.out⟩⟩
           obtain rfl := zm H; obtain ⟨G9, I0, I1, I2, I3, I4, I5, I6, I7, I8⟩ := ze5 a2.out; have b5 : 0 ≤ (a1 : Int) := zD; have b6 : a1 < (a0.length : Int) := zD; obtain ⟨b7, e9, b9⟩ := Kd.at_string b4.out a1 b5 b6; cases e9; replace b9 := zx HB b9; replace b5 := eq_true b5; replace b6 := eq_true b6
           go_wp2_with (first | (go_at_call 34; (with_reducible refine (spec_l2Text.calls k4 (rdOf ByteArray.empty a0 a1) false _ b8.out).mono ?_); rintro e w' ⟨rfl, ⟨nd, rfl⟩⟩; (try first | exact ⟨rfl, _, World.drewN_drewN _ _ _⟩ | exact ⟨rfl, _, Eq.trans (World.drewN_drewN _ _ _) (congrArg (World.drewN _) (Nat.add_assoc _ _ _))⟩)))
           repeat (go_quiet (first | (go_at_call 34; (with_reducible refine (spec_l2Text.calls k4 (rdOf ByteArray.empty a0 a1) false _ b8.out).mono ?_); rintro e w' ⟨rfl, ⟨nd, rfl⟩⟩; (try first | exact ⟨rfl, _, World.drewN_drewN _ _ _⟩ | exact ⟨rfl, _, Eq.trans (World.drewN_drewN _ _ _) (congrArg (World.drewN _) (Nat.add_assoc _ _ _))⟩))); try go_wp2_with (first | (go_at_call 34; (with_reducible refine (spec_l2Text.calls k4 (rdOf ByteArray.empty a0 a1) false _ b8.out).mono ?_); rintro e w' ⟨rfl, ⟨nd, rfl⟩⟩; (try first | exact ⟨rfl, _, World.drewN_drewN _ _ _⟩ | exact ⟨rfl, _, Eq.trans (World.drewN_drewN _ _ _) (congrArg (World.drewN _) (Nat.add_assoc _ _ _))⟩))))
           go_ret
           exact ⟨zE, zW HB.out⟩
          replace H := zI1 H
          rcases H with ⟨f1, H⟩ | ⟨f1, H⟩
          ·have C9 := beq_iff_eq.mpr f1; have D0 := bne_eq_false_iff_eq.mpr f1; clear f1; obtain rfl := zm H; obtain ⟨I9, J0, J1, J2, J3, J4, J5, J6, J7, J8⟩ := ze5 a2.out
           go_wp2
           repeat (go_quiet (fail); try go_wp2)
           go_ret
           exact ⟨zE, zW HB.out⟩
          have C9 := beq_eq_false_iff_ne.mpr f1; have D0 := bne_iff_ne.mpr f1; obtain rfl := zm H; obtain ⟨J9, L0, L1, L2, L3, L4, L5, L6, L7, L8⟩ := ze5 a2.out
          go_wp2
          repeat (go_quiet (fail); try go_wp2)
          go_ret
          exact ⟨zE, zW HB.out⟩
       have x9 := beq_eq_false_iff_ne.mpr e8; have y0 := bne_iff_ne.mpr e8; obtain rfl := zm H
       go_wp2
       repeat (go_quiet (fail); try go_wp2)
       go_ret
       exact ⟨zE, zW HB.out⟩
/-! ### spec_l2Count: function 19 -/
mutual
def spec_l2Count.j0 : Nat → Int → Bool → Int → Int → ByteArray → List (S30) → List ByteArray → Option (Int)
 | 0, _, _, _, _, _, _, _ => none
 | k + 1, x1, b1, a2, a3, a4, a0, a5 => if b1 = true then (some 100) else (spec_l2Count.j1 k x1 a2 a3 a4 a0 a5)
def spec_l2Count.j1 : Nat → Int → Int → Int → ByteArray → List (S30) → List ByteArray → Option (Int)
 | 0, _, _, _, _, _, _ => none
 | k + 1, x1, a2, a3, a4, a0, a5 => spec_l2Count.l0 k x1 1 0 a2 a3 a4 a0 a5
def spec_l2Count.l0 : Nat → Int → Int → Int → Int → Int → ByteArray → List (S30) → List ByteArray → Option (Int)
 | 0, _, _, _, _, _, _, _, _ => none
 | k + 1, x1, x5, x6, a2, a3, a4, a0, a5 => if x6 < (a0.length : Int) then (if x5 ≤ 80 then (if 0 ≤ x6 then ((spec_l2Count.f k ((rd_T30 a0 x6).f0) ((rd_T30 a0 x6).f1) ((rd_T30 a0 x6).f2) ((rd_T30 a0 x6).f3) ((rd_T30 a0 x6).f4) (wrap64 (x1 + 1))).bind fun b2 => (spec_l2Count.l0 k x1 (wrap64 (x5 + b2)) (wrap64 (x6 + 1)) a2 a3 a4 a0 a5)) else (none)) else (some x5)) else (some x5)
def spec_l2Count.f : Nat → Int → Int → ByteArray → List (S30) → List ByteArray → Int → Option (Int)
 | 0, _, _, _, _, _, _ => none
 | k + 1, a6, a7, a8, a9, b0, a1 => if a1 > 6 then (spec_l2Count.j0 k a1 true a6 a7 a8 a9 b0) else ((spec_l2Here.f k a6 a7 a8 a9 b0).bind fun b3 => (spec_l2Count.j0 k a1 (!b3) a6 a7 a8 a9 b0))
end
theorem spec_l2Count.calls (k : Nat) : ∀ (a5 a6 : Int) (a7 : ByteArray) (a9 : Option Addr) (b0 : Nat) (a0 : List (S30)) (b1 : Option Addr) (b2 : Nat) (a4 : List ByteArray) (a1 r : Int) (w : World) (b5 : Kd.C k30 w a9 a0.length a0) (b6 : a0.length ≤ b0) (b7 : Kd.C Kd.string w b1 a4.length a4) (b8 : a4.length ≤ b2) (h : spec_l2Count.f k a5 a6 a7 a0 a4 a1 = some r),
  Calls Tryd.prog 19 #[.agg #[.int .i64 a5, .int .i64 a6, .string a7, .slice a9 a0.length b0, .slice b1 a4.length b2], .int .i64 a1] w fun e w' => e = .returned (.int .i64 r) ∧ Below w.heap.size w w' := by
 induction k using Nat.strongRecOn with
 | _ k ih =>
 intro a5 a6 a7 a9 b0 a0 b1 b2 a4 a1 r w b5 b6 b7 b8 h
 cases k with
 | zero => exact absurd h (by simp [spec_l2Count.f])
 | succ k =>
 simp only [spec_l2Count.f] at h
 have h6 := Tryd.underlying30
 have d9 := zA b5
 have f9 := zA b6
 clear b5 b6
 have g0 := zA b7
 have g1 := zA b8
 clear b7 b8
 have HB := zA (Below.refl w.heap.size w)
 have H := h
 clear h
 have b9 := zA H
 clear H
 go_enter Tryd.func19, Tryd.ntmps19
 go_upto_region 1 with (first | ((with_reducible refine zd 2 ?_); refine ze 2 30 #[.int .i64 a5, .int .i64 a6, .string a7, .slice a9 a0.length b0, .slice b1 a4.length b2] ?_; intro c0 hg w4 hbox hb; have a3 := zA (hbox); have h7 := zi HB hg; have h8 := zi HB hg; replace HB := zA (below_step (zB) hb); clear hb hbox hg))
 (try simp only [Act.put, zT])
 go_cut [13] (fun g2 wc => ∃ (kq : Nat) (c2 : Bool), g2 = .bool c2 ∧ Aside0 (spec_l2Count.j0 kq a1 c2 a5 a6 a7 a0 a4 = some r) ∧ Aside0 (kq ≤ k) ∧ Aside0 (wc.heap[c0]? = some (.cells #[.int .i64 a5, .int .i64 a6, .string a7, (.slice a9 a0.length b0), (.slice b1 a4.length b2)] 30 (0, 0))) ∧ Aside0 (Below w.heap.size w wc))
 case first =>
  have H := b9.out; clear b9; replace H := zI1 H
  rcases H with ⟨c5, H⟩ | ⟨c5, H⟩
  ·have a8 : decide (6 < a1) = true := decide_eq_true c5; clear c5
   (first | rw [a8] | (simp only [i64_w, i32_w]; rw [a8]) | skip)
   have H' := zA H; clear H
   go_wp2
   go_meet
   case rel => exact ⟨_, (true), zS, (by first | exact H' | (subst_vars; exact H')), ⟨by first | omega | exact Nat.le_refl _⟩, ⟨zK a3.out⟩, ⟨zW HB.out⟩⟩
  have a8 : decide (6 < a1) = false := decide_eq_false c5; clear c5
  (first | rw [a8] | (simp only [i64_w, i32_w]; rw [a8]) | skip)
  replace H := Option.bind_eq_some_iff.mp H; obtain ⟨e0, e1, H⟩ := H
  try dsimp only at H
  have A6 := zA e1; clear e1; have H' := zA H; clear H; obtain ⟨c3, c4, c6, c7, c8, c9, d0, d1, d2, d3⟩ := ze5 a3.out
  go_wp2_with (first | (go_at_call 26; (with_reducible refine (spec_l2Here.calls k a5 a6 a7 _ _ a0 _ _ a4 e0 _ ?s1 ?s2 ?s3 ?s4 A6.out).mono ?_); (case s1 => exact zC (Kd.C_below d9.out HB.out)); (case s2 => exact f9.out); (case s3 => exact zC (Kd.C_below g0.out HB.out)); (case s4 => exact g1.out); rintro e w8 ⟨rfl, hb⟩; replace a3 := zb a3 hb; replace HB := zh HB hb; (try clear hb)))
  go_meet
  case rel => exact ⟨_, (!e0), zS, (by first | exact H' | (subst_vars; exact H')), ⟨by first | omega | exact Nat.le_refl _⟩, ⟨zK a3.out⟩, ⟨zW HB.out⟩⟩
 case rest =>
  clear b9
  try clear c1
  try clear p2
  try clear c5
  try clear a8
  try clear c3 c4 c6 c7 c8 c9 d0 d1 d2 d3
  obtain ⟨kq, c2, rfl, HA, b3, a3, HB⟩ := hcut
  cases kq with
  | zero => exact absurd HA.out (by simp [spec_l2Count.j0])
  | succ g3 =>
   have H := HA.out; clear HA; simp only [spec_l2Count.j0] at H; have d4 := zA H; clear H
   go_upto_if 13 with (fail)
   go_cut [] (fun wc => ∃ (kq : Nat), Aside0 (spec_l2Count.j1 kq a1 a5 a6 a7 a0 a4 = some r) ∧ Aside0 (kq ≤ g3) ∧ Aside0 (wc.heap[c0]? = some (.cells #[.int .i64 a5, .int .i64 a6, .string a7, (.slice a9 a0.length b0), (.slice b1 a4.length b2)] 30 (0, 0))) ∧ Aside0 (Below w.heap.size w wc))
   case first =>
    have H := d4.out; clear d4; replace H := zB0 H
    rcases H with ⟨rfl, H⟩ | ⟨rfl, H⟩
    ·obtain rfl := zm H
     go_wp2
     go_ret
     exact ⟨zE, zW HB.out⟩
    have H' := zA H; clear H
    go_wp2
    go_meet
    case rel => exact ⟨_, (by first | exact H' | (subst_vars; exact H')), ⟨by have := b3.out; first | omega | exact Nat.le_refl _⟩, ⟨zK a3.out⟩, ⟨zW HB.out⟩⟩
   case rest =>
    clear d4
    try clear c1
    try clear p2
    try clear c5
    try clear a8
    try clear c10
    try clear c3 c4 c6 c7 c8 c9 d0 d1 d2 d3
    try clear p2
    obtain ⟨kq, HA, d5, a3, HB⟩ := hcut
    cases kq with
    | zero => exact absurd HA.out (by simp [spec_l2Count.j1])
    | succ e2 =>
     have H := HA.out; clear HA; simp only [spec_l2Count.j1] at H; have H' := zA H; clear H
     go_wp2
     go_loopg [5, 6] e2 (fun kq v5 v6 w' => ∃ (b4 : Int) (a2 : Int), v5 = .int .i64 b4 ∧ v6 = .int .i64 a2 ∧ Aside0 (spec_l2Count.l0 kq a1 b4 a2 a5 a6 a7 a0 a4 = some r) ∧ Aside0 (kq ≤ e2) ∧ Aside0 (w'.heap[c0]? = some (.cells #[.int .i64 a5, .int .i64 a6, .string a7, (.slice a9 a0.length b0), (.slice b1 a4.length b2)] 30 (0, 0))) ∧ Aside0 (Below w.heap.size w w'))
     case atStart => exact ⟨(1), (0), zS, zS, H', ⟨Nat.le_refl _⟩, ⟨zK a3.out⟩, ⟨zW HB.out⟩⟩
     case round =>
      clear H'
      try clear c1
      try clear p2
      try clear c5
      try clear a8
      try clear c10
      try clear c3 c4 c6 c7 c8 c9 d0 d1 d2 d3
      try clear p2
      obtain ⟨b4, a2, rfl, rfl, HA, d6, a3, HB⟩ := hrel
      cases gk with
      | zero => exact absurd HA.out (by simp [spec_l2Count.l0])
      | succ k3 =>
       have H := HA.out; clear HA; simp only [spec_l2Count.l0] at H; replace H := zI0 H
       rcases H with ⟨g4, H⟩ | ⟨g4, H⟩
       ·replace H := zI0 H
        rcases H with ⟨g5, H⟩ | ⟨g5, H⟩
        ·replace H := zD0 H; obtain ⟨h9, H⟩ := H; replace H := Option.bind_eq_some_iff.mp H; obtain ⟨e3, e4, H⟩ := H
         try dsimp only at H
         have g6 := zA e4; clear e4; have H' := zA H; clear H; obtain ⟨i0, i1, i2, i3, i4, i5, i6, i7, i8, i9⟩ := ze5 a3.out; have d7 : 0 ≤ (a2 : Int) := zD; have d8 : a2 < (a0.length : Int) := zD; obtain ⟨j2, g7, g8, g9, h0, h1, e5, e6, e7, e8, e9, f5, f6, f7, f8⟩ := at_T30 d9.out a2 d7 d8; cases h1; replace e5 := zx HB e5; replace e6 := zx HB e6; replace e7 := zx HB e7; replace e8 := zx HB e8; replace e9 := zx HB e9; have h2 := zA f6; have h3 := zA f5; clear f6 f5; have h4 := zA f8; have h5 := zA f7; clear f8 f7; replace d7 := eq_true d7; replace d8 := eq_true d8
         go_wp2_with (first | ((with_reducible refine zq 19 ?_); refine zg (some 33) Tryd.func19 #[.agg #[.int .i64 ((rd_T30 a0 a2).f0), .int .i64 ((rd_T30 a0 a2).f1), .string ((rd_T30 a0 a2).f2), .slice g7 ((rd_T30 a0 a2).f3).length g8, .slice g9 ((rd_T30 a0 a2).f4).length h0], .int .i64 (wrap64 (a1 + 1))] ?_; (with_reducible refine (ih k3 (by have := b3.out; have := d5.out; have := d6.out; omega) ((rd_T30 a0 a2).f0) ((rd_T30 a0 a2).f1) ((rd_T30 a0 a2).f2) _ _ ((rd_T30 a0 a2).f3) _ _ ((rd_T30 a0 a2).f4) (wrap64 (a1 + 1)) e3 _ ?s1 ?s2 ?s3 ?s4 g6.out).mono ?_); (case s1 => exact zC (Kd.C_below h2.out HB.out)); (case s2 => exact h3.out); (case s3 => exact zC (Kd.C_below h4.out HB.out)); (case s4 => exact h5.out); rintro e j3 ⟨rfl, hb⟩; refine ⟨_, rfl, ?_⟩; replace a3 := zb a3 hb; replace HB := zh HB hb; (try clear hb)))
         go_roundg k3
         case measure => have := b3.out; have := d5.out; have := d6.out; omega
         case rel => exact ⟨(wrap64 (b4 + e3)), (wrap64 (a2 + 1)), zS, zS, H', ⟨by have := b3.out; have := d5.out; have := d6.out; omega⟩, ⟨zK a3.out⟩, ⟨zW HB.out⟩⟩
        obtain rfl := zm H; obtain ⟨j4, j5, j6, j7, j8, j9, k0, k1, k2, k4⟩ := ze5 a3.out
        go_wp2
        go_ret
        exact ⟨zE, zW HB.out⟩
       obtain rfl := zm H; obtain ⟨k5, k6, k7, k8, k9, l1, l2, l3, l4, l5⟩ := ze5 a3.out
       go_wp2
       go_ret
       exact ⟨zE, zW HB.out⟩
/-! ### spec_ValOk: function 11 -/
def spec_ValOk.f (k : Nat) (a0 a1 : Int) (a2 : ByteArray) (a3 : List (S30)) (a4 : List ByteArray) : Option (Bool) := (spec_l2Count.f k a0 a1 a2 a3 a4 1).bind fun a5 => (some (decide (a5 ≤ 80)))
theorem spec_ValOk.calls (k : Nat) (a2 a3 : Int) (a4 : ByteArray) (a5 : Option Addr) (a6 : Nat) (a0 : List (S30)) (a7 : Option Addr) (a8 : Nat) (a1 : List ByteArray) (r : Bool) (w : World) (b0 : Kd.C k30 w a5 a0.length a0) (b1 : a0.length ≤ a6) (b2 : Kd.C Kd.string w a7 a1.length a1) (b3 : a1.length ≤ a8) (h : spec_ValOk.f k a2 a3 a4 a0 a1 = some r) :
  Calls Tryd.prog 11 #[.agg #[.int .i64 a2, .int .i64 a3, .string a4, .slice a5 a0.length a6, .slice a7 a1.length a8]] w fun e w' => e = .returned (.bool r) ∧ Below w.heap.size w w' := by
 have c0 := Tryd.underlying30
 have b5 := zA b0
 have b6 := zA b1
 clear b0 b1
 have b7 := zA b2
 have b8 := zA b3
 clear b2 b3
 have HB := zA (Below.refl w.heap.size w)
 unfold spec_ValOk.f at h
 have H := h
 clear h
 replace H := Option.bind_eq_some_iff.mp H
 obtain ⟨b9, b4, H⟩ := H
 try dsimp only at H
 have A2 := zA b4
 clear b4
 obtain rfl := zm H
 go_enter Tryd.func11, Tryd.ntmps11
 go_wp2_with (first | ((with_reducible refine zd 1 ?_); refine ze 1 30 #[.int .i64 a2, .int .i64 a3, .string a4, .slice a5 a0.length a6, .slice a7 a1.length a8] ?_; intro c1 hg w3 hbox hb; have a9 := zA (hbox); have c2 := zi HB hg; have c3 := zi HB hg; replace HB := zA (below_step (zB) hb); clear hb hbox hg; obtain ⟨c4, c5, c6, c7, c8, c9, d0, d1, d2, d3⟩ := ze5 a9.out) | ((with_reducible refine zq 19 ?_); refine zg (some 4) Tryd.func19 #[.agg #[.int .i64 a2, .int .i64 a3, .string a4, .slice a5 a0.length a6, .slice a7 a1.length a8], .int .i64 1] ?_; (with_reducible refine (spec_l2Count.calls k a2 a3 a4 _ _ a0 _ _ a1 1 b9 _ ?s1 ?s2 ?s3 ?s4 A2.out).mono ?_); (case s1 => exact zC (Kd.C_below b5.out HB.out)); (case s2 => exact b6.out); (case s3 => exact zC (Kd.C_below b7.out HB.out)); (case s4 => exact b8.out); rintro e w5 ⟨rfl, hb⟩; refine ⟨_, rfl, ?_⟩; replace a9 := zb a9 hb; replace HB := zh HB hb; (try clear hb)))
 go_ret
 exact ⟨zE, zW HB.out⟩
/-! ### spec_NumText: function 27 -/
mutual
def spec_NumText.j0 : Nat → Int → Option (ByteArray)
 | 0, _ => none
 | k + 1, x0 => spec_NumText.l0 k x0 (strOfNums (([(wrap64 (48 + (Int.tmod x0 10))) % 256] : List Int)))
def spec_NumText.l0 : Nat → Int → ByteArray → Option (ByteArray)
 | 0, _, _ => none
 | k + 1, x0, x3 => if x0 > 9 then ((some (([(wrap64 (48 + (Int.tmod (wrap64 (Int.tdiv x0 10)) 10))) % 256] : List Int) : List Int)).bind fun a0 => (if (strOfNums a0).size + x3.size ≤ 9223372036854775807 then (spec_NumText.l0 k (wrap64 (Int.tdiv x0 10)) ((strOfNums a0) ++ x3)) else (none))) else (some x3)
end
def spec_NumText.f (k : Nat) (a0 : Int) : Option (ByteArray) := if a0 < 0 then (spec_NumText.j0 k 0) else (spec_NumText.j0 k a0)
theorem spec_NumText.calls (k : Nat) (a0 : Int) (r : ByteArray) (w : World) (h : spec_NumText.f k a0 = some r) :
  Calls Tryd.prog 27 #[.int .i64 a0] w fun e w' => e = .returned (.string r) ∧ Below w.heap.size w w' := by
 have HB := zA (Below.refl w.heap.size w)
 unfold spec_NumText.f at h
 have H := h
 clear h
 have a8 := zA H
 clear H
 go_enter Tryd.func27, Tryd.ntmps27
 go_upto_if 5 with (fail)
 go_cut [0] (fun v0 wc => ∃ (kq : Nat) (a2 : Int), v0 = .int .i64 a2 ∧ Aside0 (spec_NumText.j0 kq a2 = some r) ∧ Aside0 (kq ≤ k) ∧ Aside0 (Below w.heap.size w wc))
 case first =>
  have H := a8.out; clear a8; replace H := zI0 H
  rcases H with ⟨a3, H⟩ | ⟨a3, H⟩
  ·(first | rw [a3] | (simp only [i64_w, i32_w]; rw [a3]) | skip)
   have H' := zA H; clear H
   go_wp2
   go_meet
   case rel => exact ⟨_, (0), zS, (by first | exact H' | (subst_vars; exact H')), ⟨by first | omega | exact Nat.le_refl _⟩, ⟨zB⟩⟩
  (first | rw [a3] | (simp only [i64_w, i32_w]; rw [a3]) | skip)
  have H' := zA H; clear H
  go_wp2
  go_meet
  case rel => exact ⟨_, (a0), zS, (by first | exact H' | (subst_vars; exact H')), ⟨by first | omega | exact Nat.le_refl _⟩, ⟨zB⟩⟩
 case rest =>
  clear a8
  try clear c2
  try clear p2
  try clear c3
  try clear a3
  obtain ⟨kq, a2, rfl, HA, b2, HB⟩ := hcut
  cases kq with
  | zero => exact absurd HA.out (by simp [spec_NumText.j0])
  | succ a9 =>
   have H := HA.out; clear HA; simp only [spec_NumText.j0] at H; obtain ⟨b3, b0⟩ : ∃ y_ : List Int, y_ = (([(wrap64 (48 + (Int.tmod a2 10))) % 256] : List Int)) := ⟨_, rfl⟩; replace H : (spec_NumText.l0 a9 a2 (strOfNums b3)) = some r := zY b0 H; have b4 := zA b0; clear b0; have H' := zA H; clear H
   go_wp2_with (first | ((with_reducible refine gate_dst (N := 10) rfl ?_); refine Kd.R_lit (Kd.int .u8) _ 5 ?hg (N := 10) ?hd (xs := ([(wrap64 (48 + (Int.tmod a2 10))) % 256] : List Int)) (inner := [.int .u8 ((wrap64 (48 + (Int.tmod a2 10))) % 256)]) (ok := fun _ => True) ?hr ?hp (fun _ hk => hk) trivial (Below.refl _ _) (Nat.le_refl _) (by simp) ?_; (case hd => rfl); (case hg => rfl); (case hr => first | (go_simp; done) | (go_simp; rfl)); (case hp => exact (Reps.one (show Kd.M (Kd.int .u8) _ _ _ ((wrap64 (48 + (Int.tmod a2 10))) % 256) [.int .u8 ((wrap64 (48 + (Int.tmod a2 10))) % 256)] from rfl) (Reps.none _ _))); intro c1 w4 a5 hb hg_ hnew_; clear hg_ hnew_; (first | rw [← b4.out] at a5 | (simp only [Int.reduceToNat] at a5; rw [← b4.out] at a5)); have b7 := zA (Kd.R_lower a5 (below_size (zB))); replace HB := zA (below_step (zB) hb); clear hb a5; have b8 := own_string (P := Tryd.prog) Tryd.underlying50 Tryd.underlying5 Tryd.underlying9 (Kd.own_of_R b7.out)))
   go_loopg [0, 3] a9 (fun kq v0 v3 w' => ∃ (a1 : Int) (a4 : ByteArray), v0 = .int .i64 a1 ∧ v3 = .string a4 ∧ Aside0 (spec_NumText.l0 kq a1 a4 = some r) ∧ Aside0 (kq ≤ a9) ∧ Aside0 (Below w.heap.size w w'))
   case atStart => exact ⟨(a2), (strOfNums b3), zS, zS, H', ⟨Nat.le_refl _⟩, ⟨zB⟩⟩
   case round =>
    clear H'
    try clear c2
    try clear p2
    try clear c3
    try clear a3
    try clear p6
    try clear b8
    try clear p2
    obtain ⟨a1, a4, rfl, rfl, HA, b5, HB⟩ := hrel
    cases gk with
    | zero => exact absurd HA.out (by simp [spec_NumText.l0])
    | succ k2 =>
     have H := HA.out; clear HA; simp only [spec_NumText.l0] at H; replace H := zI1 H
     rcases H with ⟨c7, H⟩ | ⟨c7, H⟩
     ·have b9 : decide (9 < a1) = true := decide_eq_true c7; clear c7; obtain ⟨a7, b1⟩ : ∃ y_ : List Int, y_ = (([(wrap64 (48 + (Int.tmod (wrap64 (Int.tdiv a1 10)) 10))) % 256] : List Int)) := ⟨_, rfl⟩; replace H : (if (strOfNums a7).size + a4.size ≤ 9223372036854775807 then (spec_NumText.l0 k2 (wrap64 (Int.tdiv a1 10)) ((strOfNums a7) ++ a4)) else (none)) = some r := zY b1 H; have b6 := zA b1; clear b1; replace H := zC0 H; obtain ⟨c8, H⟩ := H; have c4 := eq_true c8; have c5 := decide_eq_true c8
      try have c6 : (9223372036854775807 < (strOfNums a7).size + a4.size) = False := eq_false (Nat.not_lt.2 c8)
      have H' := zA H; clear H
      go_wp2_with (first | ((with_reducible refine gate_dst (N := 20) rfl ?_); refine Kd.R_lit (Kd.int .u8) _ 5 ?hg (N := 20) ?hd (xs := ([(wrap64 (48 + (Int.tmod (wrap64 (Int.tdiv a1 10)) 10))) % 256] : List Int)) (inner := [.int .u8 ((wrap64 (48 + (Int.tmod (wrap64 (Int.tdiv a1 10)) 10))) % 256)]) (ok := fun _ => True) ?hr ?hp (fun _ hk => hk) trivial (Below.refl _ _) (Nat.le_refl _) (by simp) ?_; (case hd => rfl); (case hg => rfl); (case hr => first | (go_simp; done) | (go_simp; rfl)); (case hp => exact (Reps.one (show Kd.M (Kd.int .u8) _ _ _ ((wrap64 (48 + (Int.tmod (wrap64 (Int.tdiv a1 10)) 10))) % 256) [.int .u8 ((wrap64 (48 + (Int.tmod (wrap64 (Int.tdiv a1 10)) 10))) % 256)] from rfl) (Reps.none _ _))); intro c9 w9 a6 hb hg_ hnew_; clear hg_ hnew_; (first | rw [← b6.out] at a6 | (simp only [Int.reduceToNat] at a6; rw [← b6.out] at a6)); have c0 := zA (Kd.R_lower a6 (below_size (zB))); replace HB := zA (below_step (zB) hb); clear hb a6; have d0 := own_string (P := Tryd.prog) Tryd.underlying50 Tryd.underlying5 Tryd.underlying9 (Kd.own_of_R c0.out)))
      go_roundg k2
      case measure => have := b2.out; have := b5.out; omega
      case rel => exact ⟨(wrap64 (Int.tdiv a1 10)), ((strOfNums a7) ++ a4), zS, zS, H', ⟨by have := b2.out; have := b5.out; omega⟩, ⟨zB⟩⟩
     have b9 : decide (9 < a1) = false := decide_eq_false c7; clear c7; obtain rfl := zm H
     go_wp2
     go_ret
     exact ⟨zE, zB⟩
/-! ### spec_l2Num: function 20 -/
def spec_l2Num.f (k : Nat) (a0 : Int) : Option (ByteArray) := if a0 < 0 then ((spec_NumText.f k (wrap64 (-a0))).bind fun a1 => (if 1 + a1.size ≤ 9223372036854775807 then (some ((⟨#[45]⟩ : ByteArray) ++ a1)) else (none))) else ((spec_NumText.f k a0).bind fun a2 => (some a2))
theorem spec_l2Num.calls (k : Nat) (a0 : Int) (r : ByteArray) (w : World) (h : spec_l2Num.f k a0 = some r) :
  Calls Tryd.prog 20 #[.int .i64 a0] w fun e w' => e = .returned (.string r) ∧ Below w.heap.size w w' := by
 have HB := zA (Below.refl w.heap.size w)
 unfold spec_l2Num.f at h
 have H := h
 clear h
 replace H := zI0 H
 rcases H with ⟨a4, H⟩ | ⟨a4, H⟩
 ·replace H := Option.bind_eq_some_iff.mp H; obtain ⟨a1, a2, H⟩ := H
  try dsimp only at H
  have A3 := zA a2; clear a2; replace H := zC0 H; obtain ⟨c4, H⟩ := H; have a6 := eq_true c4; have a7 := decide_eq_true c4
  try have a8 : (9223372036854775807 < 1 + a1.size) = False := eq_false (Nat.not_lt.2 c4)
  obtain rfl := zm H
  go_enter Tryd.func20, Tryd.ntmps20
  go_wp2_with (first | ((with_reducible refine zq 27 ?_); refine zg (some 7) Tryd.func27 #[.int .i64 (wrap64 (-a0))] ?_; (with_reducible refine (spec_NumText.calls k (wrap64 (-a0)) a1 _ A3.out).mono ?_); rintro e w5 ⟨rfl, hb⟩; refine ⟨_, rfl, ?_⟩; replace HB := zA (below_step (zB) hb); (try clear hb)))
  go_ret
  exact ⟨zE, zB⟩
 replace H := Option.bind_eq_some_iff.mp H
 obtain ⟨a5, a3, H⟩ := H
 try dsimp only at H
 have A6 := zA a3
 clear a3
 obtain rfl := zm H
 go_enter Tryd.func20, Tryd.ntmps20
 go_wp2_with (first | ((with_reducible refine zq 27 ?_); refine zg (some 10) Tryd.func27 #[.int .i64 a0] ?_; (with_reducible refine (spec_NumText.calls k a0 a5 _ A6.out).mono ?_); rintro e w7 ⟨rfl, hb⟩; refine ⟨_, rfl, ?_⟩; replace HB := zA (below_step (zB) hb); (try clear hb)))
 go_ret
 exact ⟨zE, zB⟩
/-! ### spec_l2Quote: function 21 -/
mutual
def spec_l2Quote.l0 : Nat → ByteArray → ByteArray → Int → Option (ByteArray)
 | 0, _, _, _ => none
 | k + 1, x0, x3, x4 => if x4 < (x0.size : Int) then (spec_l2Quote.j1 k x0 x3 x4) else (if x3.size + 1 ≤ 9223372036854775807 then (some (x3 ++ (⟨#[34]⟩ : ByteArray))) else (none))
def spec_l2Quote.j1 : Nat → ByteArray → ByteArray → Int → Option (ByteArray)
 | 0, _, _, _ => none
 | k + 1, x0, x3, x4 => if 0 ≤ x4 then (if x4 < (x0.size : Int) then (if (bt x0 x4) = 34 then (if x3.size + 2 ≤ 9223372036854775807 then (spec_l2Quote.l0 k x0 (x3 ++ (⟨#[92, 34]⟩ : ByteArray)) (wrap64 (x4 + 1))) else (none)) else (if (bt x0 x4) = 92 then (if x3.size + 2 ≤ 9223372036854775807 then (spec_l2Quote.l0 k x0 (x3 ++ (⟨#[92, 92]⟩ : ByteArray)) (wrap64 (x4 + 1))) else (none)) else (if (bt x0 x4) = 10 then (if x3.size + 2 ≤ 9223372036854775807 then (spec_l2Quote.l0 k x0 (x3 ++ (⟨#[92, 110]⟩ : ByteArray)) (wrap64 (x4 + 1))) else (none)) else (if (bt x0 x4) = 9 then (if x3.size + 2 ≤ 9223372036854775807 then (spec_l2Quote.l0 k x0 (x3 ++ (⟨#[92, 116]⟩ : ByteArray)) (wrap64 (x4 + 1))) else (none)) else (if x4 ≤ (wrap64 (x4 + 1)) then (if (wrap64 (x4 + 1)) ≤ (x0.size : Int) then (if x3.size + (x0.extract (x4 : Int).toNat ((wrap64 (x4 + 1)) : Int).toNat).size ≤ 9223372036854775807 then (spec_l2Quote.l0 k x0 (x3 ++ (x0.extract (x4 : Int).toNat ((wrap64 (x4 + 1)) : Int).toNat)) (wrap64 (x4 + 1))) else (none)) else (none)) else (none)))))) else (none)) else (none)
end
def spec_l2Quote.f (k : Nat) (a0 : ByteArray) : Option (ByteArray) := spec_l2Quote.l0 k a0 (⟨#[34]⟩ : ByteArray) 0
theorem spec_l2Quote.calls (k : Nat) (a0 r : ByteArray) (w : World) (h : spec_l2Quote.f k a0 = some r) :
  Calls Tryd.prog 21 #[.string a0] w fun e w' => e = .returned (.string r) ∧ Drawn0 w w' := by
 unfold spec_l2Quote.f at h
 have H := h
 clear h
 have H' := zA H
 clear H
 go_enter Tryd.func21, Tryd.ntmps21
 go_wp2
 go_loopg [3, 4] k (fun kq v3 v4 w' => ∃ (a2 : ByteArray) (a1 : Int), v3 = .string a2 ∧ v4 = .int .i64 a1 ∧ Aside0 (spec_l2Quote.l0 kq a0 a2 a1 = some r) ∧ Aside0 (kq ≤ k) ∧ Drawn0 w w')
 case atStart => exact ⟨((⟨#[34]⟩ : ByteArray)), (0), zS, zS, H', ⟨Nat.le_refl _⟩, zv0⟩
 case round =>
  clear H'; obtain ⟨a2, a1, rfl, rfl, HA, a3, ⟨m1, rfl⟩⟩ := hrel
  cases gk with
  | zero => exact absurd HA.out (by simp [spec_l2Quote.l0])
  | succ k1 =>
   have H := HA.out; clear HA; simp only [spec_l2Quote.l0] at H; have b1 := zA H; clear H
   go_upto_if 8 with (fail)
   go_cut [] (fun wc => ∃ (kq : Nat), Aside0 (spec_l2Quote.j1 kq a0 a2 a1 = some r) ∧ Aside0 (kq ≤ k1) ∧ Drawn0 w wc)
   case first =>
    have H := b1.out; clear b1; replace H := zI0 H
    rcases H with ⟨a5, H⟩ | ⟨a5, H⟩
    ·(first | rw [a5] | (simp only [i64_w, i32_w]; rw [a5]) | skip)
     have H' := zA H; clear H
     go_wp2
     go_meet
     case rel => exact ⟨_, (by first | exact H' | (subst_vars; exact H')), ⟨by have := a3.out; first | omega | exact Nat.le_refl _⟩, zv0⟩
    (first | rw [a5] | (simp only [i64_w, i32_w]; rw [a5]) | skip)
    replace H := zC0 H; obtain ⟨c4, H⟩ := H; have b8 := eq_true c4; have b9 := decide_eq_true c4
    try have c0 : (9223372036854775807 < a2.size + 1) = False := eq_false (Nat.not_lt.2 c4)
    obtain rfl := zm H
    go_wp2
    go_ret
    exact ⟨by first | rfl | (simp; done) | (simp [*]; done) | (simp; rw [Bool.eq_iff_iff]; simp; done), zv0⟩
   case rest =>
    clear b1
    try clear c2
    try clear p2
    try clear c3
    try clear a5
    try clear c4
    try clear b8
    try clear b9
    try clear c0
    obtain ⟨kq, HA, a4, ⟨d4, rfl⟩⟩ := hcut
    cases kq with
    | zero => exact absurd HA.out (by simp [spec_l2Quote.j1])
    | succ a9 =>
     have H := HA.out; clear HA; simp only [spec_l2Quote.j1] at H; replace H := zD0 H; obtain ⟨d5, H⟩ := H; replace H := zD0 H; obtain ⟨d6, H⟩ := H; replace H := zI1 H
     rcases H with ⟨c8, H⟩ | ⟨c8, H⟩
     ·have c1 := beq_iff_eq.mpr c8; have c5 := bne_eq_false_iff_eq.mpr c8; clear c8; replace H := zC0 H; obtain ⟨c9, H⟩ := H; have d7 := eq_true c9; have d8 := decide_eq_true c9
      try have d9 : (9223372036854775807 < a2.size + 2) = False := eq_false (Nat.not_lt.2 c9)
      have H' := zA H; clear H; have p7 : 0 ≤ (a1 : Int) := zD; have q7 : a1 < (a0.size : Int) := zD; have b0 := bt_at a0 a1; replace p7 := eq_true p7; replace q7 := eq_true q7
      go_wp2
      go_roundg a9
      case measure => have := a3.out; have := a4.out; omega
      case rel => exact ⟨(a2 ++ (⟨#[92, 34]⟩ : ByteArray)), (wrap64 (a1 + 1)), zS, zS, H', ⟨by have := a3.out; have := a4.out; omega⟩, zv0⟩
     have c1 := beq_eq_false_iff_ne.mpr c8; have c5 := bne_iff_ne.mpr c8; replace H := zI1 H
     rcases H with ⟨a6, H⟩ | ⟨a6, H⟩
     ·have c6 := beq_iff_eq.mpr a6; have c7 := bne_eq_false_iff_eq.mpr a6; clear a6; replace H := zC0 H; obtain ⟨b2, H⟩ := H; have e0 := eq_true b2; have e1 := decide_eq_true b2
      try have e2 : (9223372036854775807 < a2.size + 2) = False := eq_false (Nat.not_lt.2 b2)
      have H' := zA H; clear H; have p7 : 0 ≤ (a1 : Int) := zD; have q7 : a1 < (a0.size : Int) := zD; have b0 := bt_at a0 a1; replace p7 := eq_true p7; replace q7 := eq_true q7
      go_wp2
      go_roundg a9
      case measure => have := a3.out; have := a4.out; omega
      case rel => exact ⟨(a2 ++ (⟨#[92, 92]⟩ : ByteArray)), (wrap64 (a1 + 1)), zS, zS, H', ⟨by have := a3.out; have := a4.out; omega⟩, zv0⟩
     have c6 := beq_eq_false_iff_ne.mpr a6; have c7 := bne_iff_ne.mpr a6; replace H := zI1 H
     rcases H with ⟨a7, H⟩ | ⟨a7, H⟩
     ·have d0 := beq_iff_eq.mpr a7; have d1 := bne_eq_false_iff_eq.mpr a7; clear a7; replace H := zC0 H; obtain ⟨b3, H⟩ := H; have e3 := eq_true b3; have e4 := decide_eq_true b3
      try have e5 : (9223372036854775807 < a2.size + 2) = False := eq_false (Nat.not_lt.2 b3)
      have H' := zA H; clear H; have p7 : 0 ≤ (a1 : Int) := zD; have q7 : a1 < (a0.size : Int) := zD; have b0 := bt_at a0 a1; replace p7 := eq_true p7; replace q7 := eq_true q7
      go_wp2
      go_roundg a9
      case measure => have := a3.out; have := a4.out; omega
      case rel => exact ⟨(a2 ++ (⟨#[92, 110]⟩ : ByteArray)), (wrap64 (a1 + 1)), zS, zS, H', ⟨by have := a3.out; have := a4.out; omega⟩, zv0⟩
     have d0 := beq_eq_false_iff_ne.mpr a7; have d1 := bne_iff_ne.mpr a7; replace H := zI1 H
     rcases H with ⟨a8, H⟩ | ⟨a8, H⟩
     ·have d2 := beq_iff_eq.mpr a8; have d3 := bne_eq_false_iff_eq.mpr a8; clear a8; replace H := zC0 H; obtain ⟨b4, H⟩ := H; have e6 := eq_true b4; have e7 := decide_eq_true b4
      try have e8 : (9223372036854775807 < a2.size + 2) = False := eq_false (Nat.not_lt.2 b4)
      have H' := zA H; clear H; have p7 : 0 ≤ (a1 : Int) := zD; have q7 : a1 < (a0.size : Int) := zD; have b0 := bt_at a0 a1; replace p7 := eq_true p7; replace q7 := eq_true q7
      go_wp2
      go_roundg a9
      case measure => have := a3.out; have := a4.out; omega
      case rel => exact ⟨(a2 ++ (⟨#[92, 116]⟩ : ByteArray)), (wrap64 (a1 + 1)), zS, zS, H', ⟨by have := a3.out; have := a4.out; omega⟩, zv0⟩
     have d2 := beq_eq_false_iff_ne.mpr a8; have d3 := bne_iff_ne.mpr a8; have e9 := eq_true (zD : 0 ≤ a1); replace H := zC0 H; obtain ⟨b6, H⟩ := H; have f0 := eq_true b6; have f1 := decide_eq_true b6; replace H := zC0 H; obtain ⟨b7, H⟩ := H; have f2 := eq_true b7; have f3 := decide_eq_true b7; replace H := zC0 H; obtain ⟨b5, H⟩ := H; have f4 := eq_true b5; have f5 := decide_eq_true b5
     try have f6 : (9223372036854775807 < a2.size + (a0.extract (a1 : Int).toNat ((wrap64 (a1 + 1)) : Int).toNat).size) = False := eq_false (Nat.not_lt.2 b5)
     have H' := zA H; clear H; have p7 : 0 ≤ (a1 : Int) := zD; have q7 : a1 < (a0.size : Int) := zD; have b0 := bt_at a0 a1; replace p7 := eq_true p7; replace q7 := eq_true q7
     go_wp2
     go_roundg a9
     case measure => have := a3.out; have := a4.out; omega
     case rel => exact ⟨(a2 ++ (a0.extract (a1 : Int).toNat ((wrap64 (a1 + 1)) : Int).toNat)), (wrap64 (a1 + 1)), zS, zS, H', ⟨by have := a3.out; have := a4.out; omega⟩, zv0⟩
/-! ### spec_l2Put: function 12 -/
mutual
def spec_l2Put.l0 : Nat → ByteArray → Int → Int → Int → ByteArray → List (S30) → List ByteArray → Option (ByteArray)
 | 0, _, _, _, _, _, _, _ => none
 | k + 1, x3, x4, a1, a3, a4, a0, a2 => if x4 < (a0.length : Int) then (spec_l2Put.j1 k x3 x4 a1 a3 a4 a0 a2) else (if a1 = 5 then (if 1 + x3.size ≤ 9223372036854775807 then (if ((⟨#[123]⟩ : ByteArray) ++ x3).size + 1 ≤ 9223372036854775807 then (some (((⟨#[123]⟩ : ByteArray) ++ x3) ++ (⟨#[125]⟩ : ByteArray))) else (none)) else (none)) else (if 1 + x3.size ≤ 9223372036854775807 then (if ((⟨#[91]⟩ : ByteArray) ++ x3).size + 1 ≤ 9223372036854775807 then (some (((⟨#[91]⟩ : ByteArray) ++ x3) ++ (⟨#[93]⟩ : ByteArray))) else (none)) else (none)))
def spec_l2Put.j1 : Nat → ByteArray → Int → Int → Int → ByteArray → List (S30) → List ByteArray → Option (ByteArray)
 | 0, _, _, _, _, _, _, _ => none
 | k + 1, x3, x4, a1, a3, a4, a0, a2 => if x4 > 0 then (if x3.size + 1 ≤ 9223372036854775807 then (spec_l2Put.j2 k (x3 ++ (⟨#[44]⟩ : ByteArray)) x4 a1 a3 a4 a0 a2) else (none)) else (spec_l2Put.j2 k x3 x4 a1 a3 a4 a0 a2)
def spec_l2Put.j2 : Nat → ByteArray → Int → Int → Int → ByteArray → List (S30) → List ByteArray → Option (ByteArray)
 | 0, _, _, _, _, _, _, _ => none
 | k + 1, x3, x4, a1, a3, a4, a0, a2 => if a1 = 5 then (if 0 ≤ x4 then (if x4 < (a2.length : Int) then ((spec_l2Quote.f k (rdOf ByteArray.empty a2 x4)).bind fun a6 => (if x3.size + a6.size ≤ 9223372036854775807 then (if (x3 ++ a6).size + 1 ≤ 9223372036854775807 then (if x4 < (a0.length : Int) then ((spec_l2Put.f k ((rd_T30 a0 x4).f0) ((rd_T30 a0 x4).f1) ((rd_T30 a0 x4).f2) ((rd_T30 a0 x4).f3) ((rd_T30 a0 x4).f4)).bind fun a8 => (if ((x3 ++ a6) ++ (⟨#[58]⟩ : ByteArray)).size + a8.size ≤ 9223372036854775807 then (spec_l2Put.l0 k (((x3 ++ a6) ++ (⟨#[58]⟩ : ByteArray)) ++ a8) (wrap64 (x4 + 1)) a1 a3 a4 a0 a2) else (none))) else (none)) else (none)) else (none))) else (none)) else (none)) else (if 0 ≤ x4 then (if x4 < (a0.length : Int) then ((spec_l2Put.f k ((rd_T30 a0 x4).f0) ((rd_T30 a0 x4).f1) ((rd_T30 a0 x4).f2) ((rd_T30 a0 x4).f3) ((rd_T30 a0 x4).f4)).bind fun a9 => (if x3.size + a9.size ≤ 9223372036854775807 then (spec_l2Put.l0 k (x3 ++ a9) (wrap64 (x4 + 1)) a1 a3 a4 a0 a2) else (none))) else (none)) else (none))
def spec_l2Put.f : Nat → Int → Int → ByteArray → List (S30) → List ByteArray → Option (ByteArray)
 | 0, _, _, _, _, _ => none
 | k + 1, a5, a7, b0, b1, b2 => if a5 = 0 then (some (⟨#[110, 117, 108, 108]⟩ : ByteArray)) else (if a5 = 1 then (if a7 = 1 then (some (⟨#[116, 114, 117, 101]⟩ : ByteArray)) else (some (⟨#[102, 97, 108, 115, 101]⟩ : ByteArray))) else (if a5 = 2 then ((spec_l2Num.f k a7).bind fun b3 => (some b3)) else (if a5 = 3 then ((spec_l2Quote.f k b0).bind fun b4 => (some b4)) else (spec_l2Put.l0 k (⟨#[]⟩ : ByteArray) 0 a5 a7 b0 b1 b2))))
end
theorem spec_l2Put.calls (k : Nat) : ∀ (a6 a4 : Int) (a5 : ByteArray) (a8 : Option Addr) (a9 : Nat) (a0 : List (S30)) (b0 : Option Addr) (b1 : Nat) (a3 : List ByteArray) (r : ByteArray) (w : World) (f6 : Kd.C k30 w a8 a0.length a0) (f7 : a0.length ≤ a9) (f8 : Kd.C Kd.string w b0 a3.length a3) (f9 : a3.length ≤ b1) (h : spec_l2Put.f k a6 a4 a5 a0 a3 = some r),
  Calls Tryd.prog 12 #[.agg #[.int .i64 a6, .int .i64 a4, .string a5, .slice a8 a0.length a9, .slice b0 a3.length b1]] w fun e w' => e = .returned (.string r) ∧ Below w.heap.size w w' := by
 induction k using Nat.strongRecOn with
 | _ k ih =>
 intro a6 a4 a5 a8 a9 a0 b0 b1 a3 r w f6 f7 f8 f9 h
 cases k with
 | zero => exact absurd h (by simp [spec_l2Put.f])
 | succ k =>
 simp only [spec_l2Put.f] at h
 have B0 := Tryd.underlying30
 have n7 := zA f6
 have B1 := zA f7
 clear f6 f7
 have x7 := zA f8
 have B2 := zA f9
 clear f8 f9
 have HB := zA (Below.refl w.heap.size w)
 have H := h
 clear h
 replace H := zI1 H
 rcases H with ⟨c2, H⟩ | ⟨c2, H⟩
 ·have d7 := beq_iff_eq.mpr c2; have d8 := bne_eq_false_iff_eq.mpr c2; clear c2; obtain rfl := zm H
  go_enter Tryd.func12, Tryd.ntmps12
  go_wp2_with (first | ((with_reducible refine zd 1 ?_); refine ze 1 30 #[.int .i64 a6, .int .i64 a4, .string a5, .slice a8 a0.length a9, .slice b0 a3.length b1] ?_; intro b6 hg w3 hbox hb; have a2 := zA (hbox); have d2 := zi HB hg; have d3 := zi HB hg; replace HB := zA (below_step (zB) hb); clear hb hbox hg; obtain ⟨g0, g1, g2, g3, g4, g5, g6, g7, g8, g9⟩ := ze5 a2.out))
  go_ret
  exact ⟨zE, zW HB.out⟩
 have d7 := beq_eq_false_iff_ne.mpr c2
 have d8 := bne_iff_ne.mpr c2
 replace H := zI1 H
 rcases H with ⟨c5, H⟩ | ⟨c5, H⟩
 ·have d9 := beq_iff_eq.mpr c5; have e0 := bne_eq_false_iff_eq.mpr c5; clear c5; replace H := zI1 H
  rcases H with ⟨c6, H⟩ | ⟨c6, H⟩
  ·have e1 := beq_iff_eq.mpr c6; have e2 := bne_eq_false_iff_eq.mpr c6; clear c6; obtain rfl := zm H
   go_enter Tryd.func12, Tryd.ntmps12
   go_wp2_with (first | ((with_reducible refine zd 1 ?_); refine ze 1 30 #[.int .i64 a6, .int .i64 a4, .string a5, .slice a8 a0.length a9, .slice b0 a3.length b1] ?_; intro b6 hg w7 hbox hb; have a2 := zA (hbox); have d2 := zi HB hg; have d3 := zi HB hg; replace HB := zA (below_step (zB) hb); clear hb hbox hg; obtain ⟨h0, h1, h2, h3, h4, h5, h6, h7, h8, h9⟩ := ze5 a2.out))
   go_ret
   exact ⟨zE, zW HB.out⟩
  have e1 := beq_eq_false_iff_ne.mpr c6; have e2 := bne_iff_ne.mpr c6; obtain rfl := zm H
  go_enter Tryd.func12, Tryd.ntmps12
  go_wp2_with (first | ((with_reducible refine zd 1 ?_); refine ze 1 30 #[.int .i64 a6, .int .i64 a4, .string a5, .slice a8 a0.length a9, .slice b0 a3.length b1] ?_; intro b6 hg w9 hbox hb; have a2 := zA (hbox); have d2 := zi HB hg; have d3 := zi HB hg; replace HB := zA (below_step (zB) hb); clear hb hbox hg; obtain ⟨i0, i1, i2, i3, i4, i5, i6, i7, i8, i9⟩ := ze5 a2.out))
  go_ret
  exact ⟨zE, zW HB.out⟩
 have d9 := beq_eq_false_iff_ne.mpr c5
 have e0 := bne_iff_ne.mpr c5
 replace H := zI1 H
 rcases H with ⟨b3, H⟩ | ⟨b3, H⟩
 ·have e3 := beq_iff_eq.mpr b3; have e4 := bne_eq_false_iff_eq.mpr b3; clear b3; replace H := Option.bind_eq_some_iff.mp H; obtain ⟨x8, n8, H⟩ := H
  try dsimp only at H
  have x9 := zA n8; clear n8; obtain rfl := zm H
  go_enter Tryd.func12, Tryd.ntmps12
  go_wp2_with (first | ((with_reducible refine zd 1 ?_); refine ze 1 30 #[.int .i64 a6, .int .i64 a4, .string a5, .slice a8 a0.length a9, .slice b0 a3.length b1] ?_; intro b6 hg B3 hbox hb; have a2 := zA (hbox); have d2 := zi HB hg; have d3 := zi HB hg; replace HB := zA (below_step (zB) hb); clear hb hbox hg; obtain ⟨j0, j3, j4, j5, j6, j7, j8, j9, k0, k2⟩ := ze5 a2.out) | ((with_reducible refine zq 20 ?_); refine zg (some 18) Tryd.func20 #[.int .i64 a4] ?_; (with_reducible refine (spec_l2Num.calls k a4 x8 _ x9.out).mono ?_); rintro e B4 ⟨rfl, hb⟩; refine ⟨_, rfl, ?_⟩; replace a2 := zb a2 hb; replace HB := zh HB hb; (try clear hb)))
  go_ret
  exact ⟨zE, zW HB.out⟩
 have e3 := beq_eq_false_iff_ne.mpr b3
 have e4 := bne_iff_ne.mpr b3
 replace H := zI1 H
 rcases H with ⟨b4, H⟩ | ⟨b4, H⟩
 ·have e5 := beq_iff_eq.mpr b4; have e6 := bne_eq_false_iff_eq.mpr b4; clear b4; replace H := Option.bind_eq_some_iff.mp H; obtain ⟨y0, n9, H⟩ := H
  try dsimp only at H
  have y1 := zA n9; clear n9; obtain rfl := zm H
  go_enter Tryd.func12, Tryd.ntmps12
  go_wp2_with (first | ((with_reducible refine zd 1 ?_); refine ze 1 30 #[.int .i64 a6, .int .i64 a4, .string a5, .slice a8 a0.length a9, .slice b0 a3.length b1] ?_; intro b6 hg B5 hbox hb; have a2 := zA (hbox); have d2 := zi HB hg; have d3 := zi HB hg; replace HB := zA (below_step (zB) hb); clear hb hbox hg; obtain ⟨k3, k4, k5, k6, k7, k8, k9, l1, l2, l3⟩ := ze5 a2.out) | ((with_reducible refine zq 21 ?_); refine zg (some 23) Tryd.func21 #[.string a5] ?_; (with_reducible refine (spec_l2Quote.calls k a5 y0 _ y1.out).mono ?_); rintro e w' ⟨rfl, ⟨nd, rfl⟩⟩; refine ⟨_, rfl, ?_⟩))
  go_ret
  exact ⟨zE, zW HB.out⟩
 have e5 := beq_eq_false_iff_ne.mpr b4
 have e6 := bne_iff_ne.mpr b4
 have H' := zA H
 clear H
 go_enter Tryd.func12, Tryd.ntmps12
 go_wp2_with (first | ((with_reducible refine zd 1 ?_); refine ze 1 30 #[.int .i64 a6, .int .i64 a4, .string a5, .slice a8 a0.length a9, .slice b0 a3.length b1] ?_; intro b6 hg B6 hbox hb; have a2 := zA (hbox); have d2 := zi HB hg; have d3 := zi HB hg; replace HB := zA (below_step (zB) hb); clear hb hbox hg; obtain ⟨l4, l5, l6, l7, l8, l9, m0, m1, m2, m3⟩ := ze5 a2.out))
 go_loopg [3, 4] k (fun kq v3 v4 w' => ∃ (a7 : ByteArray) (a1 : Int), v3 = .string a7 ∧ v4 = .int .i64 a1 ∧ Aside0 (spec_l2Put.l0 kq a7 a1 a6 a4 a5 a0 a3 = some r) ∧ Aside0 (kq ≤ k) ∧ Aside0 (w'.heap[b6]? = some (.cells #[.int .i64 a6, .int .i64 a4, .string a5, (.slice a8 a0.length a9), (.slice b0 a3.length b1)] 30 (0, 0))) ∧ Aside0 (Below w.heap.size w w'))
 case atStart => exact ⟨((⟨#[]⟩ : ByteArray)), (0), zS, zS, H', ⟨Nat.le_refl _⟩, ⟨zK a2.out⟩, ⟨zW HB.out⟩⟩
 case round =>
  clear H'
  try clear c1
  try clear c2
  try clear d7
  try clear d8
  try clear p2
  try clear c5
  try clear d9
  try clear e0
  try clear c6
  try clear e1
  try clear e2
  try clear b3
  try clear e3
  try clear e4
  try clear c12
  try clear b4
  try clear e5
  try clear e6
  try clear c20
  try clear c21
  try clear i0 i1 i2 i3 i4 i5 i6 i7 i8 i9
  try clear j0 j3 j4 j5 j6 j7 j8 j9 k0 k2
  try clear k3 k4 k5 k6 k7 k8 k9 l1 l2 l3
  try clear l4 l5 l6 l7 l8 l9 m0 m1 m2 m3
  try clear g0 g1 g2 g3 g4 g5 g6 g7 g8 g9
  try clear h0 h1 h2 h3 h4 h5 h6 h7 h8 h9
  obtain ⟨a7, a1, rfl, rfl, HA, b5, a2, HB⟩ := hrel
  cases gk with
  | zero => exact absurd HA.out (by simp [spec_l2Put.l0])
  | succ k1 =>
   have H := HA.out; clear HA; simp only [spec_l2Put.l0] at H; have m4 := zA H; clear H; obtain ⟨o0, o1, o2, o3, o4, o5, o6, o7, o8, o9⟩ := ze5 a2.out
   go_upto_if 28 with (fail)
   go_cut [] (fun wc => ∃ (kq : Nat), Aside0 (spec_l2Put.j1 kq a7 a1 a6 a4 a5 a0 a3 = some r) ∧ Aside0 (kq ≤ k1) ∧ Aside0 (wc.heap[b6]? = some (.cells #[.int .i64 a6, .int .i64 a4, .string a5, (.slice a8 a0.length a9), (.slice b0 a3.length b1)] 30 (0, 0))) ∧ Aside0 (Below w.heap.size w wc))
   case first =>
    have H := m4.out; clear m4; replace H := zI0 H
    rcases H with ⟨b9, H⟩ | ⟨b9, H⟩
    ·(first | rw [b9] | (simp only [i64_w, i32_w]; rw [b9]) | skip)
     have H' := zA H; clear H
     go_wp2
     go_meet
     case rel => exact ⟨_, (by first | exact H' | (subst_vars; exact H')), ⟨by have := b5.out; first | omega | exact Nat.le_refl _⟩, ⟨zK a2.out⟩, ⟨zW HB.out⟩⟩
    (first | rw [b9] | (simp only [i64_w, i32_w]; rw [b9]) | skip)
    replace H := zI1 H
    rcases H with ⟨b7, H⟩ | ⟨b7, H⟩
    ·have m5 := beq_iff_eq.mpr b7; have m6 := bne_eq_false_iff_eq.mpr b7; clear b7; replace H := zC0 H; obtain ⟨d4, H⟩ := H; have p0 := eq_true d4; have p1 := decide_eq_true d4
     try have p3 : (9223372036854775807 < 1 + a7.size) = False := eq_false (Nat.not_lt.2 d4)
     replace H := zC0 H; obtain ⟨c4, H⟩ := H; have p4 := eq_true c4; have p5 := decide_eq_true c4
     try have p6 : (9223372036854775807 < ((⟨#[123]⟩ : ByteArray) ++ a7).size + 1) = False := eq_false (Nat.not_lt.2 c4)
     try have B7 : (9223372036854775807 < 1 + a7.size + 1) = False := (by have z_ := c4; (try simp only [ByteArray.size_append] at z_); exact eq_false (Nat.not_lt.2 z_))
     obtain rfl := zm H; obtain ⟨p7, p8, p9, q0, q1, q2, q3, q4, q5, q6⟩ := ze5 a2.out
     go_wp2
     go_ret
     exact ⟨zE, zW HB.out⟩
    have m5 := beq_eq_false_iff_ne.mpr b7; have m6 := bne_iff_ne.mpr b7; replace H := zC0 H; obtain ⟨d5, H⟩ := H; have q7 := eq_true d5; have q8 := decide_eq_true d5
    try have q9 : (9223372036854775807 < 1 + a7.size) = False := eq_false (Nat.not_lt.2 d5)
    replace H := zC0 H; obtain ⟨c7, H⟩ := H; have r0 := eq_true c7; have r1 := decide_eq_true c7
    try have r2 : (9223372036854775807 < ((⟨#[91]⟩ : ByteArray) ++ a7).size + 1) = False := eq_false (Nat.not_lt.2 c7)
    try have B8 : (9223372036854775807 < 1 + a7.size + 1) = False := (by have z_ := c7; (try simp only [ByteArray.size_append] at z_); exact eq_false (Nat.not_lt.2 z_))
    obtain rfl := zm H; obtain ⟨r3, r4, r5, r6, r7, r8, r9, t0, t1, t2⟩ := ze5 a2.out
    go_wp2
    go_ret
    exact ⟨zE, zW HB.out⟩
   case rest =>
    clear m4
    try clear c1
    try clear c2
    try clear d7
    try clear d8
    try clear p2
    try clear c3
    try clear c5
    try clear d9
    try clear e0
    try clear c6
    try clear e1
    try clear e2
    try clear b3
    try clear e3
    try clear e4
    try clear c12
    try clear b4
    try clear e5
    try clear e6
    try clear c20
    try clear c21
    try clear c24
    try clear b9
    try clear b7
    try clear m5
    try clear m6
    try clear d4
    try clear p0
    try clear p1
    try clear p3
    try clear c4
    try clear p4
    try clear p5
    try clear p6
    try clear d5
    try clear q7
    try clear q8
    try clear q9
    try clear c7
    try clear r0
    try clear r1
    try clear r2
    try clear i0 i1 i2 i3 i4 i5 i6 i7 i8 i9
    try clear j0 j3 j4 j5 j6 j7 j8 j9 k0 k2
    try clear k3 k4 k5 k6 k7 k8 k9 l1 l2 l3
    try clear l4 l5 l6 l7 l8 l9 m0 m1 m2 m3
    try clear o0 o1 o2 o3 o4 o5 o6 o7 o8 o9
    try clear p7 p8 p9 q0 q1 q2 q3 q4 q5 q6
    try clear r3 r4 r5 r6 r7 r8 r9 t0 t1 t2
    try clear g0 g1 g2 g3 g4 g5 g6 g7 g8 g9
    try clear h0 h1 h2 h3 h4 h5 h6 h7 h8 h9
    try clear p2
    obtain ⟨kq, HA, b8, a2, HB⟩ := hcut
    cases kq with
    | zero => exact absurd HA.out (by simp [spec_l2Put.j1])
    | succ y2 =>
     have H := HA.out; clear HA; simp only [spec_l2Put.j1] at H; have m7 := zA H; clear H
     go_upto_if 32 with (fail)
     go_cut [3] (fun v3 wc => ∃ (kq : Nat) (b2 : ByteArray), v3 = .string b2 ∧ Aside0 (spec_l2Put.j2 kq b2 a1 a6 a4 a5 a0 a3 = some r) ∧ Aside0 (kq ≤ y2) ∧ Aside0 (wc.heap[b6]? = some (.cells #[.int .i64 a6, .int .i64 a4, .string a5, (.slice a8 a0.length a9), (.slice b0 a3.length b1)] 30 (0, 0))) ∧ Aside0 (Below w.heap.size w wc))
     case first =>
      have H := m7.out; clear m7; replace H := zI1 H
      rcases H with ⟨c8, H⟩ | ⟨c8, H⟩
      ·have c9 : decide (0 < a1) = true := decide_eq_true c8; clear c8
       (first | rw [c9] | (simp only [i64_w, i32_w]; rw [c9]) | skip)
       replace H := zC0 H; obtain ⟨e7, H⟩ := H; have y3 := eq_true e7; have y4 := decide_eq_true e7
       try have y5 : (9223372036854775807 < a7.size + 1) = False := eq_false (Nat.not_lt.2 e7)
       have H' := zA H; clear H
       go_wp2
       go_meet
       case rel => exact ⟨_, (a7 ++ (⟨#[44]⟩ : ByteArray)), zS, (by first | exact H' | (subst_vars; exact H')), ⟨by have := b5.out; have := b8.out; first | omega | exact Nat.le_refl _⟩, ⟨zK a2.out⟩, ⟨zW HB.out⟩⟩
      have c9 : decide (0 < a1) = false := decide_eq_false c8; clear c8
      (first | rw [c9] | (simp only [i64_w, i32_w]; rw [c9]) | skip)
      have H' := zA H; clear H
      go_wp2
      go_meet
      case rel => exact ⟨_, (a7), zS, (by first | exact H' | (subst_vars; exact H')), ⟨by have := b5.out; have := b8.out; first | omega | exact Nat.le_refl _⟩, ⟨zK a2.out⟩, ⟨zW HB.out⟩⟩
     case rest =>
      clear m7
      try clear c1
      try clear c2
      try clear d7
      try clear d8
      try clear p2
      try clear c3
      try clear c5
      try clear d9
      try clear e0
      try clear c6
      try clear e1
      try clear e2
      try clear b3
      try clear e3
      try clear e4
      try clear c12
      try clear b4
      try clear e5
      try clear e6
      try clear c20
      try clear c21
      try clear c24
      try clear b9
      try clear b7
      try clear m5
      try clear m6
      try clear d4
      try clear p0
      try clear p1
      try clear p3
      try clear c4
      try clear p4
      try clear p5
      try clear p6
      try clear d5
      try clear q7
      try clear q8
      try clear q9
      try clear c7
      try clear r0
      try clear r1
      try clear r2
      try clear c8
      try clear c9
      try clear e7
      try clear y3
      try clear y4
      try clear y5
      try clear i0 i1 i2 i3 i4 i5 i6 i7 i8 i9
      try clear j0 j3 j4 j5 j6 j7 j8 j9 k0 k2
      try clear k3 k4 k5 k6 k7 k8 k9 l1 l2 l3
      try clear l4 l5 l6 l7 l8 l9 m0 m1 m2 m3
      try clear o0 o1 o2 o3 o4 o5 o6 o7 o8 o9
      try clear p7 p8 p9 q0 q1 q2 q3 q4 q5 q6
      try clear r3 r4 r5 r6 r7 r8 r9 t0 t1 t2
      try clear g0 g1 g2 g3 g4 g5 g6 g7 g8 g9
      try clear h0 h1 h2 h3 h4 h5 h6 h7 h8 h9
      try clear p2
      obtain ⟨kq, b2, rfl, HA, d0, a2, HB⟩ := hcut
      cases kq with
      | zero => exact absurd HA.out (by simp [spec_l2Put.j2])
      | succ d6 =>
       have H := HA.out; clear HA; simp only [spec_l2Put.j2] at H; replace H := zI1 H
       rcases H with ⟨d1, H⟩ | ⟨d1, H⟩
       ·have y6 := beq_iff_eq.mpr d1; have y7 := bne_eq_false_iff_eq.mpr d1; clear d1; replace H := zD0 H; obtain ⟨B9, H⟩ := H; replace H := zD0 H; obtain ⟨C0, H⟩ := H; replace H := Option.bind_eq_some_iff.mp H; obtain ⟨c0, t3, H⟩ := H
        try dsimp only at H
        have y8 := zA t3; clear t3; replace H := zC0 H; obtain ⟨m8, H⟩ := H; have C1 := eq_true m8; have C2 := decide_eq_true m8
        try have C3 : (9223372036854775807 < b2.size + c0.size) = False := eq_false (Nat.not_lt.2 m8)
        replace H := zC0 H; obtain ⟨e8, H⟩ := H; have C4 := eq_true e8; have C5 := decide_eq_true e8
        try have C6 : (9223372036854775807 < (b2 ++ c0).size + 1) = False := eq_false (Nat.not_lt.2 e8)
        try have C7 : (9223372036854775807 < b2.size + c0.size + 1) = False := (by have z_ := e8; (try simp only [ByteArray.size_append] at z_); exact eq_false (Nat.not_lt.2 z_))
        replace H := zD0 H; obtain ⟨C8, H⟩ := H; replace H := Option.bind_eq_some_iff.mp H; obtain ⟨e9, t4, H⟩ := H
        try dsimp only at H
        have y9 := zA t4; clear t4; replace H := zC0 H; obtain ⟨f5, H⟩ := H; have C9 := eq_true f5; have D0 := decide_eq_true f5
        try have D1 : (9223372036854775807 < ((b2 ++ c0) ++ (⟨#[58]⟩ : ByteArray)).size + e9.size) = False := eq_false (Nat.not_lt.2 f5)
        try have D2 : (9223372036854775807 < b2.size + c0.size + 1 + e9.size) = False := (by have z_ := f5; (try simp only [ByteArray.size_append] at z_); exact eq_false (Nat.not_lt.2 z_))
        have H' := zA H; clear H; obtain ⟨D3, D4, D5, D6, D7, D8, D9, E0, E1, E2⟩ := ze5 a2.out; have m9 : 0 ≤ (a1 : Int) := zD; have n0 : a1 < (a3.length : Int) := zD; obtain ⟨E3, z0, t5⟩ := Kd.at_string x7.out a1 m9 n0; cases z0; replace t5 := zx HB t5; replace m9 := eq_true m9; replace n0 := eq_true n0
        go_wp2_with (first | ((with_reducible refine zq 21 ?_); refine zg (some 44) Tryd.func21 #[.string (rdOf ByteArray.empty a3 a1)] ?_; (with_reducible refine (spec_l2Quote.calls d6 (rdOf ByteArray.empty a3 a1) c0 _ y8.out).mono ?_); rintro e w' ⟨rfl, ⟨nd, rfl⟩⟩; refine ⟨_, rfl, ?_⟩; have n1 : 0 ≤ (a1 : Int) := zD; have n2 : a1 < (a0.length : Int) := zD; obtain ⟨E4, z1, z2, z3, z4, z5, t6, t7, t8, t9, v0, v1, v2, v5, v6⟩ := at_T30 n7.out a1 n1 n2; cases z5; replace t6 := zx HB t6; replace t7 := zx HB t7; replace t8 := zx HB t8; replace t9 := zx HB t9; replace v0 := zx HB v0; have z6 := zA v2; have z7 := zA v1; clear v2 v1; have z8 := zA v6; have z9 := zA v5; clear v6 v5; replace n1 := eq_true n1; replace n2 := eq_true n2) | ((with_reducible refine zq 12 ?_); refine zg (some 53) Tryd.func12 #[.agg #[.int .i64 ((rd_T30 a0 a1).f0), .int .i64 ((rd_T30 a0 a1).f1), .string ((rd_T30 a0 a1).f2), .slice z1 ((rd_T30 a0 a1).f3).length z2, .slice z3 ((rd_T30 a0 a1).f4).length z4]] ?_; (with_reducible refine (ih d6 (by have := b5.out; have := b8.out; have := d0.out; omega) ((rd_T30 a0 a1).f0) ((rd_T30 a0 a1).f1) ((rd_T30 a0 a1).f2) _ _ ((rd_T30 a0 a1).f3) _ _ ((rd_T30 a0 a1).f4) e9 _ ?s1 ?s2 ?s3 ?s4 y9.out).mono ?_); (case s1 => exact zC (Kd.C_below z6.out (zW HB.out))); (case s2 => exact z7.out); (case s3 => exact zC (Kd.C_below z8.out (zW HB.out))); (case s4 => exact z9.out); rintro e E5 ⟨rfl, hb⟩; refine ⟨_, rfl, ?_⟩; replace a2 := zb a2 hb; replace HB := zh HB hb; (try clear hb)))
        go_roundg d6
        case measure => have := b5.out; have := b8.out; have := d0.out; omega
        case rel => exact ⟨(((b2 ++ c0) ++ (⟨#[58]⟩ : ByteArray)) ++ e9), (wrap64 (a1 + 1)), zS, zS, H', ⟨by have := b5.out; have := b8.out; have := d0.out; omega⟩, ⟨zK a2.out⟩, ⟨zW HB.out⟩⟩
       have y6 := beq_eq_false_iff_ne.mpr d1; have y7 := bne_iff_ne.mpr d1; replace H := zD0 H; obtain ⟨E6, H⟩ := H; replace H := zD0 H; obtain ⟨E7, H⟩ := H; replace H := Option.bind_eq_some_iff.mp H; obtain ⟨n3, v7, H⟩ := H
       try dsimp only at H
       have A0 := zA v7; clear v7; replace H := zC0 H; obtain ⟨n4, H⟩ := H; have E8 := eq_true n4; have E9 := decide_eq_true n4
       try have F0 : (9223372036854775807 < b2.size + n3.size) = False := eq_false (Nat.not_lt.2 n4)
       have H' := zA H; clear H; obtain ⟨F1, F2, F3, F4, F5, F6, F7, F8, F9, G0⟩ := ze5 a2.out; have n5 : 0 ≤ (a1 : Int) := zD; have n6 : a1 < (a0.length : Int) := zD; obtain ⟨G1, A1, A2, A3, A4, A5, v8, v9, x0, x1, x2, x3, x4, x5, x6⟩ := at_T30 n7.out a1 n5 n6; cases A5; replace v8 := zx HB v8; replace v9 := zx HB v9; replace x0 := zx HB x0; replace x1 := zx HB x1; replace x2 := zx HB x2; have A6 := zA x4; have A7 := zA x3; clear x4 x3; have A8 := zA x6; have A9 := zA x5; clear x6 x5; replace n5 := eq_true n5; replace n6 := eq_true n6
       go_wp2_with (first | ((with_reducible refine zq 12 ?_); refine zg (some 53) Tryd.func12 #[.agg #[.int .i64 ((rd_T30 a0 a1).f0), .int .i64 ((rd_T30 a0 a1).f1), .string ((rd_T30 a0 a1).f2), .slice A1 ((rd_T30 a0 a1).f3).length A2, .slice A3 ((rd_T30 a0 a1).f4).length A4]] ?_; (with_reducible refine (ih d6 (by have := b5.out; have := b8.out; have := d0.out; omega) ((rd_T30 a0 a1).f0) ((rd_T30 a0 a1).f1) ((rd_T30 a0 a1).f2) _ _ ((rd_T30 a0 a1).f3) _ _ ((rd_T30 a0 a1).f4) n3 _ ?s1 ?s2 ?s3 ?s4 A0.out).mono ?_); (case s1 => exact zC (Kd.C_below A6.out HB.out)); (case s2 => exact A7.out); (case s3 => exact zC (Kd.C_below A8.out HB.out)); (case s4 => exact A9.out); rintro e G2 ⟨rfl, hb⟩; refine ⟨_, rfl, ?_⟩; replace a2 := zb a2 hb; replace HB := zh HB hb; (try clear hb)))
       go_roundg d6
       case measure => have := b5.out; have := b8.out; have := d0.out; omega
       case rel => exact ⟨(b2 ++ n3), (wrap64 (a1 + 1)), zS, zS, H', ⟨by have := b5.out; have := b8.out; have := d0.out; omega⟩, ⟨zK a2.out⟩, ⟨zW HB.out⟩⟩
/-! ### spec_ValText: function 5 -/
def spec_ValText.f (k : Nat) (a0 a1 : Int) (a2 : ByteArray) (a3 : List (S30)) (a4 : List ByteArray) : Option (ByteArray) := (spec_ValOk.f k a0 a1 a2 a3 a4).bind fun a5 => (if a5 = true then ((spec_l2Put.f k a0 a1 a2 a3 a4).bind fun a6 => (some a6)) else (some (⟨#[]⟩ : ByteArray)))
theorem spec_ValText.calls (k : Nat) (a2 a3 : Int) (a4 : ByteArray) (a6 : Option Addr) (a7 : Nat) (a0 : List (S30)) (a8 : Option Addr) (a9 : Nat) (a1 : List ByteArray) (r : ByteArray) (w : World) (b0 : Kd.C k30 w a6 a0.length a0) (b1 : a0.length ≤ a7) (b2 : Kd.C Kd.string w a8 a1.length a1) (b3 : a1.length ≤ a9) (h : spec_ValText.f k a2 a3 a4 a0 a1 = some r) :
  Calls Tryd.prog 5 #[.agg #[.int .i64 a2, .int .i64 a3, .string a4, .slice a6 a0.length a7, .slice a8 a1.length a9]] w fun e w' => e = .returned (.string r) ∧ Below w.heap.size w w' := by
 have c2 := Tryd.underlying30
 have b4 := zA b0
 have b5 := zA b1
 clear b0 b1
 have b6 := zA b2
 have b7 := zA b3
 clear b2 b3
 have HB := zA (Below.refl w.heap.size w)
 unfold spec_ValText.f at h
 have H := h
 clear h
 replace H := Option.bind_eq_some_iff.mp H
 obtain ⟨c0, b8, H⟩ := H
 try dsimp only at H
 have A2 := zA b8
 clear b8
 go_enter Tryd.func5, Tryd.ntmps5
 go_upto_if 5 with (first | ((with_reducible refine zd 1 ?_); refine ze 1 30 #[.int .i64 a2, .int .i64 a3, .string a4, .slice a6 a0.length a7, .slice a8 a1.length a9] ?_; intro c3 hg w5 hbox hb; have a5 := zA (hbox); have c4 := zi HB hg; have c5 := zi HB hg; replace HB := zA (below_step (zB) hb); clear hb hbox hg; obtain ⟨c6, c7, c8, c9, d0, d1, d2, d3, d4, d5⟩ := ze5 a5.out) | ((with_reducible refine zq 11 ?_); refine zg (some 4) Tryd.func11 #[.agg #[.int .i64 a2, .int .i64 a3, .string a4, .slice a6 a0.length a7, .slice a8 a1.length a9]] ?_; (with_reducible refine (spec_ValOk.calls k a2 a3 a4 _ _ a0 _ _ a1 c0 _ ?s1 ?s2 ?s3 ?s4 A2.out).mono ?_); (case s1 => exact zC (Kd.C_below b4.out HB.out)); (case s2 => exact b5.out); (case s3 => exact zC (Kd.C_below b6.out HB.out)); (case s4 => exact b7.out); rintro e w7 ⟨rfl, hb⟩; refine ⟨_, rfl, ?_⟩; replace a5 := zb a5 hb; replace HB := zh HB hb; (try clear hb)))
 (try simp only [Act.put, zT])
 replace H := zB0 H
 rcases H with ⟨rfl, H⟩ | ⟨rfl, H⟩
 ·replace H := Option.bind_eq_some_iff.mp H; obtain ⟨c1, b9, H⟩ := H
  try dsimp only at H
  have A4 := zA b9; clear b9; obtain rfl := zm H; obtain ⟨d6, d7, d8, d9, e0, e1, e2, e3, e4, e5⟩ := ze5 a5.out
  go_wp2_with (first | ((with_reducible refine zq 12 ?_); refine zg (some 7) Tryd.func12 #[.agg #[.int .i64 a2, .int .i64 a3, .string a4, .slice a6 a0.length a7, .slice a8 a1.length a9]] ?_; (with_reducible refine (spec_l2Put.calls k a2 a3 a4 _ _ a0 _ _ a1 c1 _ ?s1 ?s2 ?s3 ?s4 A4.out).mono ?_); (case s1 => exact zC (Kd.C_below b4.out HB.out)); (case s2 => exact b5.out); (case s3 => exact zC (Kd.C_below b6.out HB.out)); (case s4 => exact b7.out); rintro e w9 ⟨rfl, hb⟩; refine ⟨_, rfl, ?_⟩; replace a5 := zb a5 hb; replace HB := zh HB hb; (try clear hb)))
  go_ret
  exact ⟨zE, zW HB.out⟩
 obtain rfl := zm H
 go_wp2
 go_ret
 exact ⟨zE, zW HB.out⟩
end Go.Proofs.YtglhniiabhknoaaDoor.PGA
