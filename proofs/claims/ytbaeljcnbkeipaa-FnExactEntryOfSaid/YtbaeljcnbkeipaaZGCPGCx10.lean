/- The walks of the functions that these laws reach, and what each comes to: printed by this session's program. -/
import Derived.Test.YtbaeljcnbkeipaaZGCPGCx0
import Derived.Test.YtbaeljcnbkeipaaZGCPGCx1
import Derived.Test.YtbaeljcnbkeipaaZGCPGCx4
import Derived.Test.YtbaeljcnbkeipaaZGCPGCx6
import Derived.Test.YtbaeljcnbkeipaaZGCSays
import Derived.Test.YtbaeljcnbkeipaaZGCRegs
namespace Go.Proofs.Ytbaeljcnbkeipaa.PGC
open Go.RowKit YtbaeljcnbkeipaaW.PrintWords YtbaeljcnbkeipaaW.PrintLast YtbaeljcnbkeipaaW.PrintMore
attribute [local go_sem high] Mine.str_gtr Mine.str_leq Mine.str_geq
attribute [local go_sem] max2_int min2_int max_two min_two max_three min_three max_four min_four   -- for this text's walks alone
set_option linter.unusedVariables false
set_option maxHeartbeats 8000000
set_option maxRecDepth 100000
set_option linter.unusedSimpArgs false
/-! ### laws_FnExactEntryOf: function 4 -/
mutual
def laws_FnExactEntryOf.j0 : Nat → List (S84) → ByteArray → Int → Int → Int → List ByteArray → Option (Bool)
 | 0, _, _, _, _, _, _ => none
 | k + 1, x0, x1, a0, a1, a2, a3 => (laws_szEntryS.f k x0 1048576).bind fun d2 => (if d2 < 0 then (some true) else (laws_FnExactEntryOf.j1 k x0 x1 d2 a0 a1 a2 a3))
def laws_FnExactEntryOf.j1 : Nat → List (S84) → ByteArray → Int → Int → Int → Int → List ByteArray → Option (Bool)
 | 0, _, _, _, _, _, _, _ => none
 | k + 1, x0, x1, x7, a0, a1, a2, a3 => (laws_szVer.f k a0 a1 a2 a3 x7).bind fun d5 => (if d5 < 0 then (some true) else (laws_FnExactEntryOf.j2 k x0 x1 a0 a1 a2 a3))
def laws_FnExactEntryOf.j2 : Nat → List (S84) → ByteArray → Int → Int → Int → List ByteArray → Option (Bool)
 | 0, _, _, _, _, _, _ => none
 | k + 1, x0, x1, a0, a1, a2, a3 => (laws_toEntryS.f k x0).bind fun d6 => ((laws_toVer.f k a0 a1 a2 a3).bind fun c8 => ((spec_EntryOf.f k d6 x1 c8.1 c8.2.1 c8.2.2.1 c8.2.2.2).bind fun b0 => ((laws_toEntryS.f k x0).bind fun d1 => ((laws_toVer.f k a0 a1 a2 a3).bind fun b8 => ((impl_EntryOf.f k d1 x1 b8.1 b8.2.1 b8.2.2.1 b8.2.2.2).bind fun b1 => ((laws_eqEntry.f k b1.1 b1.2.1 b1.2.2.1 b1.2.2.2.1 b1.2.2.2.2.1 b1.2.2.2.2.2.1 b0.1 b0.2.1 b0.2.2.1 b0.2.2.2.1 b0.2.2.2.2.1 b0.2.2.2.2.2.1).bind fun d7 => (if d7 = true then (laws_FnExactEntryOf.j3 k x0 x1 b0.2.2.2.2.2.2 d1 b1.2.2.2.2.2.2 (b1.2.2.2.2.2.2 != b0.2.2.2.2.2.2) a0 a1 a2 a3 b0.1 b0.2.1 b0.2.2.1 b0.2.2.2.1 b0.2.2.2.2.1 b0.2.2.2.2.2.1 b8.1 b8.2.1 b8.2.2.1 b8.2.2.2 b1.1 b1.2.1 b1.2.2.1 b1.2.2.2.1 b1.2.2.2.2.1 b1.2.2.2.2.2.1) else (laws_FnExactEntryOf.j3 k x0 x1 b0.2.2.2.2.2.2 d1 b1.2.2.2.2.2.2 true a0 a1 a2 a3 b0.1 b0.2.1 b0.2.2.1 b0.2.2.2.1 b0.2.2.2.2.1 b0.2.2.2.2.2.1 b8.1 b8.2.1 b8.2.2.1 b8.2.2.2 b1.1 b1.2.1 b1.2.2.1 b1.2.2.2.1 b1.2.2.2.2.1 b1.2.2.2.2.2.1))))))))
def laws_FnExactEntryOf.j3 : Nat → List (S84) → ByteArray → Bool → List (S44) → Bool → Bool → Int → Int → Int → List ByteArray → ByteArray → Int → Int → Int → List ByteArray → List (S94) → Int → Int → Int → List ByteArray → ByteArray → Int → Int → Int → List ByteArray → List (S94) → Option (Bool)
 | 0, _, _, _, _, _, _, _, _, _, _, _, _, _, _, _, _, _, _, _, _, _, _, _, _, _, _ => none
 | k + 1, x0, x1, x9, c0, c5, d8, a0, a1, a2, a3, b2, b3, b4, b5, b6, b7, c1, c2, c3, c4, a4, a5, a6, a7, a8, a9 => if d8 = true then (none) else (laws_FnExactEntryOf.j4 k x0 x1 x9 c0 c5 a0 a1 a2 a3 b2 b3 b4 b5 b6 b7 c1 c2 c3 c4 a4 a5 a6 a7 a8 a9)
def laws_FnExactEntryOf.j4 : Nat → List (S84) → ByteArray → Bool → List (S44) → Bool → Int → Int → Int → List ByteArray → ByteArray → Int → Int → Int → List ByteArray → List (S94) → Int → Int → Int → List ByteArray → ByteArray → Int → Int → Int → List ByteArray → List (S94) → Option (Bool)
 | 0, _, _, _, _, _, _, _, _, _, _, _, _, _, _, _, _, _, _, _, _, _, _, _, _, _ => none
 | k + 1, x0, x1, x9, c0, c5, a0, a1, a2, a3, b2, b3, b4, b5, b6, b7, c1, c2, c3, c4, a4, a5, a6, a7, a8, a9 => (laws_toEntryS.f k x0).bind fun d9 => ((laws_eqEntryS.f k c0 d9).bind fun e0 => (if e0 = true then (laws_FnExactEntryOf.j5 k x0 x1 x9 c0 c5 a0 a1 a2 a3 b2 b3 b4 b5 b6 b7 c1 c2 c3 c4 a4 a5 a6 a7 a8 a9) else (none)))
def laws_FnExactEntryOf.j5 : Nat → List (S84) → ByteArray → Bool → List (S44) → Bool → Int → Int → Int → List ByteArray → ByteArray → Int → Int → Int → List ByteArray → List (S94) → Int → Int → Int → List ByteArray → ByteArray → Int → Int → Int → List ByteArray → List (S94) → Option (Bool)
 | 0, _, _, _, _, _, _, _, _, _, _, _, _, _, _, _, _, _, _, _, _, _, _, _, _, _ => none
 | k + 1, x0, x1, x9, c0, c5, a0, a1, a2, a3, b2, b3, b4, b5, b6, b7, c1, c2, c3, c4, a4, a5, a6, a7, a8, a9 => (laws_toVer.f k a0 a1 a2 a3).bind fun c9 => ((laws_eqVer.f k c1 c2 c3 c4 c9.1 c9.2.1 c9.2.2.1 c9.2.2.2).bind fun e1 => (if e1 = true then (laws_FnExactEntryOf.j6 k x0 x1 x9 c0 c5 a0 a1 a2 a3 b2 b3 b4 b5 b6 b7 c1 c2 c3 c4 a4 a5 a6 a7 a8 a9) else (none)))
def laws_FnExactEntryOf.j6 : Nat → List (S84) → ByteArray → Bool → List (S44) → Bool → Int → Int → Int → List ByteArray → ByteArray → Int → Int → Int → List ByteArray → List (S94) → Int → Int → Int → List ByteArray → ByteArray → Int → Int → Int → List ByteArray → List (S94) → Option (Bool)
 | 0, _, _, _, _, _, _, _, _, _, _, _, _, _, _, _, _, _, _, _, _, _, _, _, _, _ => none
 | k + 1, x0, x1, x9, c0, c5, a0, a1, a2, a3, b2, b3, b4, b5, b6, b7, c1, c2, c3, c4, a4, a5, a6, a7, a8, a9 => (laws_markEntryS.f k c0 1).bind fun e2 => ((laws_markVer.f k c1 c2 c3 c4 e2.1).bind fun e3 => (if e3.1 < 0 then (laws_FnExactEntryOf.j7 k x0 x1 x9 true a0 a1 a2 a3 b2 b3 b4 b5 b6 b7 a4 a5 a6 a7 a8 a9) else ((laws_eqEntry.f k a4 a5 a6 a7 a8 a9 b2 b3 b4 b5 b6 b7).bind fun e4 => (if e4 = true then (laws_FnExactEntryOf.j7 k x0 x1 x9 (c5 != x9) a0 a1 a2 a3 b2 b3 b4 b5 b6 b7 a4 a5 a6 a7 a8 a9) else (laws_FnExactEntryOf.j7 k x0 x1 x9 true a0 a1 a2 a3 b2 b3 b4 b5 b6 b7 a4 a5 a6 a7 a8 a9)))))
def laws_FnExactEntryOf.j7 : Nat → List (S84) → ByteArray → Bool → Bool → Int → Int → Int → List ByteArray → ByteArray → Int → Int → Int → List ByteArray → List (S94) → ByteArray → Int → Int → Int → List ByteArray → List (S94) → Option (Bool)
 | 0, _, _, _, _, _, _, _, _, _, _, _, _, _, _, _, _, _, _, _, _ => none
 | k + 1, x0, x1, x9, e5, a0, a1, a2, a3, b2, b3, b4, b5, b6, b7, a4, a5, a6, a7, a8, a9 => if e5 = true then (none) else (laws_FnExactEntryOf.j8 k x0 x1 x9 a0 a1 a2 a3 b2 b3 b4 b5 b6 b7 a4 a5 a6 a7 a8 a9)
def laws_FnExactEntryOf.j8 : Nat → List (S84) → ByteArray → Bool → Int → Int → Int → List ByteArray → ByteArray → Int → Int → Int → List ByteArray → List (S94) → ByteArray → Int → Int → Int → List ByteArray → List (S94) → Option (Bool)
 | 0, _, _, _, _, _, _, _, _, _, _, _, _, _, _, _, _, _, _, _ => none
 | k + 1, x0, x1, x9, a0, a1, a2, a3, b2, b3, b4, b5, b6, b7, a4, a5, a6, a7, a8, a9 => (laws_markEntry.f k a4 a5 a6 a7 a8 a9 1).bind fun c7 => ((laws_heldEntry.f k a4 a5 a6 a7 c7.2.1 c7.2.2 1).bind fun d3 => (if d3 < 0 then (none) else (laws_FnExactEntryOf.j9 k x0 x1 x9 c7.1 d3 a0 a1 a2 a3 b2 b3 b4 b5 b6 b7 a4 a5 a6 a7 c7.2.1 c7.2.2)))
def laws_FnExactEntryOf.j9 : Nat → List (S84) → ByteArray → Bool → Int → Int → Int → Int → Int → List ByteArray → ByteArray → Int → Int → Int → List ByteArray → List (S94) → ByteArray → Int → Int → Int → List ByteArray → List (S94) → Option (Bool)
 | 0, _, _, _, _, _, _, _, _, _, _, _, _, _, _, _, _, _, _, _, _, _ => none
 | k + 1, x0, x1, x9, b9, e6, a0, a1, a2, a3, b2, b3, b4, b5, b6, b7, a4, a5, a6, a7, a8, a9 => if e6 = b9 then (laws_FnExactEntryOf.j10 k x0 x1 x9 b9 a0 a1 a2 a3 b2 b3 b4 b5 b6 b7 a4 a5 a6 a7 a8 a9) else (none)
def laws_FnExactEntryOf.j10 : Nat → List (S84) → ByteArray → Bool → Int → Int → Int → Int → List ByteArray → ByteArray → Int → Int → Int → List ByteArray → List (S94) → ByteArray → Int → Int → Int → List ByteArray → List (S94) → Option (Bool)
 | 0, _, _, _, _, _, _, _, _, _, _, _, _, _, _, _, _, _, _, _, _ => none
 | k + 1, x0, x1, x9, b9, a0, a1, a2, a3, b2, b3, b4, b5, b6, b7, a4, a5, a6, a7, a8, a9 => (laws_toEntryS.f k x0).bind fun e7 => ((laws_toVer.f k a0 a1 a2 a3).bind fun d0 => ((impl_EntryOf.f k e7 x1 d0.1 d0.2.1 d0.2.2.1 d0.2.2.2).bind fun c6 => ((laws_eqEntry.f k c6.1 c6.2.1 c6.2.2.1 c6.2.2.2.1 c6.2.2.2.2.1 c6.2.2.2.2.2.1 b2 b3 b4 b5 b6 b7).bind fun e8 => (if e8 = true then (laws_FnExactEntryOf.j11 k b9 (c6.2.2.2.2.2.2 != x9) a4 a5 a6 a7 a8 a9) else (laws_FnExactEntryOf.j11 k b9 true a4 a5 a6 a7 a8 a9)))))
def laws_FnExactEntryOf.j11 : Nat → Int → Bool → ByteArray → Int → Int → Int → List ByteArray → List (S94) → Option (Bool)
 | 0, _, _, _, _, _, _, _, _ => none
 | k + 1, b9, e9, a4, a5, a6, a7, a8, a9 => if e9 = true then (none) else (laws_FnExactEntryOf.j12 k b9 a4 a5 a6 a7 a8 a9)
def laws_FnExactEntryOf.j12 : Nat → Int → ByteArray → Int → Int → Int → List ByteArray → List (S94) → Option (Bool)
 | 0, _, _, _, _, _, _, _ => none
 | k + 1, b9, a4, a5, a6, a7, a8, a9 => (laws_heldEntry.f k a4 a5 a6 a7 a8 a9 1).bind fun d4 => (if d4 < 0 then (none) else (if d4 = b9 then (some true) else (none)))
end
def laws_FnExactEntryOf.f (k : Nat) (l0 : List (S84)) (a1 : ByteArray) (a0 a2 a3 : Int) (a4 : List ByteArray) : Option (Bool) := if (a1.size : Int) > 1048576 then (some true) else (laws_FnExactEntryOf.j0 k l0 a1 a0 a2 a3 a4)
def laws_FnExactEntryOf.T10 : Bool × List (List Nat × List Nat) := (true, [([], []), ([0], [0]), ([], []), ([], []), ([3, 1], [3]), ([1, 2, 4, 4], [1, 2, 4]), ([5], [5]), ([6], [6]), ([6], [6]), ([], []), ([9, 7, 5, 0, 1, 2, 3, 4, 5, 6, 7, 9], [7, 9]), ([8, 10, 0, 1, 2, 3, 4, 5, 6, 7, 8, 9, 10], [8])])
def laws_FnExactEntryOf.B10 : List Nat := [0, 1, 0, 0, 11, 31, 63, 127, 127, 0, 767, 2047]
theorem laws_FnExactEntryOf.tab10 : rtab .any (opsOf Try.f4 10) = laws_FnExactEntryOf.T10 := by kernel_rfl
theorem laws_FnExactEntryOf.bits10 : waitsOk laws_FnExactEntryOf.T10.2 laws_FnExactEntryOf.B10 = true := by kernel_rfl
def laws_FnExactEntryOf.T33 : Bool × List (List Nat × List Nat) := (true, [([], []), ([0], [0]), ([], []), ([], []), ([3, 1], [3]), ([1, 2, 4, 4], [1, 2, 4]), ([5], [5]), ([6], [6]), ([6], [6]), ([], []), ([9, 7, 5, 0, 1, 2, 3, 4, 5, 6, 7, 9], [7, 9]), ([8, 10, 0, 1, 2, 3, 4, 5, 6, 7, 8, 9, 10], [8])])
def laws_FnExactEntryOf.B33 : List Nat := [0, 1, 0, 0, 11, 31, 63, 127, 127, 0, 767, 2047]
theorem laws_FnExactEntryOf.tab33 : rtab .any (opsOf Try.f4 33) = laws_FnExactEntryOf.T33 := by kernel_rfl
theorem laws_FnExactEntryOf.bits33 : waitsOk laws_FnExactEntryOf.T33.2 laws_FnExactEntryOf.B33 = true := by kernel_rfl
theorem laws_FnExactEntryOf.calls (k : Nat) (A0 : Option Addr) (c0 : Nat) (l0 : List (S84)) (a1 : ByteArray) (e1 e2 e3 : Int) (g7 : Option Addr) (g8 : Nat) (d9 : List ByteArray) (r : Bool) (w : World) (Q7 : Kd.C k84 w A0 l0.length l0) (Q8 : l0.length ≤ c0) (Q9 : Kd.C Kd.string w g7 d9.length d9) (R0 : d9.length ≤ g8) (h : laws_FnExactEntryOf.f k l0 a1 e1 e2 e3 d9 = some r) :
  Calls Try.prog 4 #[.slice A0 l0.length c0, .string a1, .agg #[.int .i64 e1, .int .i64 e2, .int .i64 e3, .slice g7 d9.length g8]] w fun e w' => e = .returned (.bool r) ∧ Below w.heap.size w w' := by
 have a3c := Try.underlying38
 have a3d := Try.underlying44
 have a3e := Try.underlying41
 have B9 := zA Q7
 have C0 := zA Q8
 clear Q7 Q8
 have o6 := zA Q9
 have o7 := zA R0
 clear Q9 R0
 have HB := zA (Below.refl w.heap.size w)
 unfold laws_FnExactEntryOf.f at h
 have H := h
 clear h
 have N0 := zA H
 clear H
 go_enter Try.func4, Try.ntmps4
 go_upto_if 21 with (first | ((with_reducible refine zd 5 ?_); refine ze 5 38 #[.int .i64 e1, .int .i64 e2, .int .i64 e3, .slice g7 d9.length g8] ?_; intro e6 hg w5 hbox hb; have a0 := zA (hbox); have a3f := zi HB hg; have N1 := zi HB hg; replace HB := zA (below_step (zB) hb); clear hb hbox hg))
 (try simp only [Act.put, zT])
 go_cut [] (fun wc => ∃ (kq : Nat), Aside0 (laws_FnExactEntryOf.j0 kq l0 a1 e1 e2 e3 d9 = some r) ∧ Aside0 (kq ≤ k) ∧ Aside0 (wc.heap[e6]? = some (.cells #[.int .i64 e1, .int .i64 e2, .int .i64 e3, (.slice g7 d9.length g8)] 38 (0, 0))) ∧ Aside0 (Below w.heap.size w wc))
 case first =>
  have H := N0.out; clear N0; replace H := zI1 H
  rcases H with ⟨c6, H⟩ | ⟨c6, H⟩
  ·have p4 : decide (1048576 < (a1.size : Int)) = true := decide_eq_true c6; have E4 : decide (1048576 < a1.size) = true := decide_eq_true (by omega); clear c6
   (first | rw [p4] | (simp only [i64_w, i32_w]; rw [p4]) | skip)
   obtain rfl := zm H
   go_wp2
   go_ret
   exact ⟨zE, zW HB.out⟩
  have p4 : decide (1048576 < (a1.size : Int)) = false := decide_eq_false c6; have E4 : decide (1048576 < a1.size) = false := decide_eq_false (by omega); clear c6
  (first | rw [p4] | (simp only [i64_w, i32_w]; rw [p4]) | skip)
  have H' := zA H; clear H
  go_wp2
  go_meet
  case rel => exact ⟨_, (by first | exact H' | (subst_vars; exact H')), ⟨by first | omega | exact Nat.le_refl _⟩, ⟨zK a0.out⟩, ⟨zW HB.out⟩⟩
 case rest =>
  clear N0
  try clear c2
  try clear p2
  try clear c4
  try clear c6
  try clear p4
  try clear E4
  obtain ⟨kq, HA, k6, a0, HB⟩ := hcut
  cases kq with
  | zero => exact absurd HA.out (by simp [laws_FnExactEntryOf.j0])
  | succ R1 =>
   have H := HA.out; clear HA; simp only [laws_FnExactEntryOf.j0] at H; replace H := Option.bind_eq_some_iff.mp H; obtain ⟨E5, R2, H⟩ := H
   try dsimp only at H
   have A7 := zA R2; clear R2; have N2 := zA H; clear H
   go_upto_if 26 with (first | ((with_reducible refine zq 14 ?_); refine zg (some 24) Try.func14 #[.slice A0 l0.length c0, .int .i64 1048576] ?_; (with_reducible refine (laws_szEntryS.calls R1 _ _ l0 1048576 E5 _ ?s1 ?s2 A7.out).mono ?_); (case s1 => exact zC (Kd.C_below B9.out HB.out)); (case s2 => exact C0.out); rintro e w9 ⟨rfl, hb⟩; refine ⟨_, rfl, ?_⟩; replace a0 := zb a0 hb; replace HB := zh HB hb; (try clear hb)))
   (try simp only [Act.put, zT])
   go_cut [] (fun wc => ∃ (kq : Nat), Aside0 (laws_FnExactEntryOf.j1 kq l0 a1 E5 e1 e2 e3 d9 = some r) ∧ Aside0 (kq ≤ R1) ∧ Aside0 (wc.heap[e6]? = some (.cells #[.int .i64 e1, .int .i64 e2, .int .i64 e3, (.slice g7 d9.length g8)] 38 (0, 0))) ∧ Aside0 (Below w.heap.size w wc))
   case first =>
    have H := N2.out; clear N2; replace H := zI0 H
    rcases H with ⟨C1, H⟩ | ⟨C1, H⟩
    ·(first | rw [C1] | (simp only [i64_w, i32_w]; rw [C1]) | skip)
     obtain rfl := zm H
     go_wp2
     go_ret
     exact ⟨zE, zW HB.out⟩
    (first | rw [C1] | (simp only [i64_w, i32_w]; rw [C1]) | skip)
    have H' := zA H; clear H
    go_wp2
    go_meet
    case rel => exact ⟨_, (by first | exact H' | (subst_vars; exact H')), ⟨by have := k6.out; first | omega | exact Nat.le_refl _⟩, ⟨zK a0.out⟩, ⟨zW HB.out⟩⟩
   case rest =>
    clear N2
    try clear c1
    try clear c2
    try clear p2
    try clear c4
    try clear c6
    try clear p4
    try clear E4
    try clear c10
    try clear C1
    try clear p2
    obtain ⟨kq, HA, l7, a0, HB⟩ := hcut
    cases kq with
    | zero => exact absurd HA.out (by simp [laws_FnExactEntryOf.j1])
    | succ R3 =>
     have H := HA.out; clear HA; simp only [laws_FnExactEntryOf.j1] at H; replace H := Option.bind_eq_some_iff.mp H; obtain ⟨a1y, R4, H⟩ := H
     try dsimp only at H
     have A11 := zA R4; clear R4; have N3 := zA H; clear H; obtain ⟨a20, a21, a22, a23, a24, a25, a26, a27⟩ := ze4 a0.out
     go_upto_if 31 with (first | ((with_reducible refine zq 15 ?_); refine zg (some 29) Try.func15 #[.agg #[.int .i64 e1, .int .i64 e2, .int .i64 e3, .slice g7 d9.length g8], .int .i64 E5] ?_; (with_reducible refine (laws_szVer.calls R3 e1 e2 e3 _ _ d9 E5 a1y _ ?s1 ?s2 A11.out).mono ?_); (case s1 => exact zC (Kd.C_below o6.out HB.out)); (case s2 => exact o7.out); rintro e w14 ⟨rfl, hb⟩; refine ⟨_, rfl, ?_⟩; replace a0 := zb a0 hb; replace HB := zh HB hb; (try clear hb)))
     (try simp only [Act.put, zT])
     go_cut [] (fun wc => ∃ (kq : Nat), Aside0 (laws_FnExactEntryOf.j2 kq l0 a1 e1 e2 e3 d9 = some r) ∧ Aside0 (kq ≤ R3) ∧ Aside0 (wc.heap[e6]? = some (.cells #[.int .i64 e1, .int .i64 e2, .int .i64 e3, (.slice g7 d9.length g8)] 38 (0, 0))) ∧ Aside0 (Below w.heap.size w wc))
     case first =>
      have H := N3.out; clear N3; replace H := zI0 H
      rcases H with ⟨C5, H⟩ | ⟨C5, H⟩
      ·(first | rw [C5] | (simp only [i64_w, i32_w]; rw [C5]) | skip)
       obtain rfl := zm H
       go_wp2
       go_ret
       exact ⟨zE, zW HB.out⟩
      (first | rw [C5] | (simp only [i64_w, i32_w]; rw [C5]) | skip)
      have H' := zA H; clear H
      go_wp2
      go_meet
      case rel => exact ⟨_, (by first | exact H' | (subst_vars; exact H')), ⟨by have := k6.out; have := l7.out; first | omega | exact Nat.le_refl _⟩, ⟨zK a0.out⟩, ⟨zW HB.out⟩⟩
     case rest =>
      clear N3
      try clear c1
      try clear c2
      try clear p2
      try clear c4
      try clear c6
      try clear p4
      try clear E4
      try clear c10
      try clear C1
      try clear c14
      try clear c15
      try clear C5
      try clear a20 a21 a22 a23 a24 a25 a26 a27
      try clear p2
      obtain ⟨kq, HA, l9, a0, HB⟩ := hcut
      cases kq with
      | zero => exact absurd HA.out (by simp [laws_FnExactEntryOf.j2])
      | succ l8 =>
       have H := HA.out; clear HA; simp only [laws_FnExactEntryOf.j2] at H; replace H := Option.bind_eq_some_iff.mp H; obtain ⟨k7, R5, H⟩ := H
       try dsimp only at H
       have R6 := zA R5; clear R5; replace H := Option.bind_eq_some_iff.mp H; obtain ⟨⟨m4, m5, m6, k1⟩, R7, H⟩ := H
       try dsimp only at H
       have N4 := zA R7; clear R7; replace H := Option.bind_eq_some_iff.mp H; obtain ⟨⟨e7, f0, f4, f7, a6, b1, i9⟩, R8, H⟩ := H
       try dsimp only at H
       have E6 := zA R8; clear R8; replace H := Option.bind_eq_some_iff.mp H; obtain ⟨i2, R9, H⟩ := H
       try dsimp only at H
       have A19 := zA R9; clear R9; replace H := Option.bind_eq_some_iff.mp H; obtain ⟨⟨h5, h6, h7, e0⟩, T0, H⟩ := H
       try dsimp only at H
       have A20 := zA T0; clear T0; replace H := Option.bind_eq_some_iff.mp H; obtain ⟨⟨e8, f1, f5, f8, c3, d5, C2⟩, T1, H⟩ := H
       try dsimp only at H
       have A21 := zA T1; clear T1; have N5 := zA H; clear H
       try go_wp2
       replace a0 := zA (blk_drew a0.out); replace HB := zA (below_drew1 HB.out)
       refine start_ (n := 12) (S := fun w' => w'.cell? ⟨e6, 0, none⟩ = some (.int .i64 e1) ∧ w'.cell? ⟨e6, 1, none⟩ = some (.int .i64 e2) ∧ w'.cell? ⟨e6, 2, none⟩ = some (.int .i64 e3) ∧ w'.cell? ⟨e6, 3, none⟩ = some (.slice g7 d9.length g8)) (ds := []) (Array.replicate 12 false) (by kernel_rfl) rfl rfl zO fun hHeld => ?_; refine with_tabW laws_FnExactEntryOf.tab10 laws_FnExactEntryOf.bits10 (fun HT_ HW_ => ?_)
       generalize wc.drew = w23 at a0 HB hHeld ⊢; refine zp 0 33 ?_; refine zp 2 35 ?_; refine zt 3 36 ?_
       refine join_ (σ := Value × Value × Value × Value × Nat) 2 #[true, true, true, true, true, true, true, true, true, true, false, false] (fun s_ => [(34, s_.1), (37, .agg #[.int .i64 m4, .int .i64 m5, .int .i64 m6, s_.2.1]), (38, .tuple #[.agg #[.string e7, .int .i64 f0, .int .i64 f4, .int .i64 f7, s_.2.2.1, s_.2.2.2.1], .bool i9]), (8, .pointer (some ⟨s_.2.2.2.2, 0, none⟩)), (32, .tuple #[.agg #[.string e7, .int .i64 f0, .int .i64 f4, .int .i64 f7, s_.2.2.1, s_.2.2.2.1], .bool i9]), (39, .agg #[.string e7, .int .i64 f0, .int .i64 f4, .int .i64 f7, s_.2.2.1, s_.2.2.2.1]), (40, .bool i9)]) (fun s_ w' => (w'.cell? ⟨e6, 0, none⟩ = some (.int .i64 e1) ∧ w'.cell? ⟨e6, 1, none⟩ = some (.int .i64 e2) ∧ w'.cell? ⟨e6, 2, none⟩ = some (.int .i64 e3) ∧ w'.cell? ⟨e6, 3, none⟩ = some (.slice g7 d9.length g8)) ∧ (Kd.S k44 44 w' w.heap.size (fun k_ => some k_ ≠ (s_.2.1 : Value).ownBlock ∧ some k_ ≠ (s_.2.2.1 : Value).ownBlock ∧ some k_ ≠ (s_.2.2.2.1 : Value).ownBlock ∧ k_ ≠ s_.2.2.2.2) s_.1 k7) ∧ (Kd.R Kd.string 9 w' w.heap.size (fun k_ => some k_ ≠ (s_.2.2.1 : Value).ownBlock) s_.2.1 k1) ∧ (Kd.R Kd.string 9 w' w.heap.size (fun k_ => some k_ ≠ (s_.2.1 : Value).ownBlock) s_.2.2.1 a6) ∧ (Kd.R k94 94 w' w.heap.size (fun _ => True) s_.2.2.2.1 b1) ∧ (w'.heap[e6]? = some (.cells #[.int .i64 e1, .int .i64 e2, .int .i64 e3, .slice g7 d9.length g8] 38 (0, 0))) ∧ (w'.heap[s_.2.2.2.2]? = some (.cells #[.string (⟨#[]⟩ : ByteArray), .int .i64 0, .int .i64 0, .int .i64 0, .slice none 0 0, .slice none 0 0] 44 (0, 0))) ∧ (w.heap.size ≤ s_.2.2.2.2) ∧ (w.heap.size ≤ s_.2.2.2.2) ∧ (e6 ≠ s_.2.2.2.2) ∧ (s_.2.2.2.2 ≠ e6) ∧ (Below w.heap.size w w')) ?_ ?_
       rotate_left
       ·intro hCont
        refine two_ (i := 1) (j := 9) (Ni := some 34) (Nj := some 8) #[true, true, true, true, false, false, false, false, false, false, false, false] #[true, false, true, true, false, false, false, false, false, true, false, false] rfl rfl rfl rfl (two_of HT_.out (by kernel_rfl)) (by decide) (by decide) (fun K hK => ?_) (fun K hK => ?_)
        ·skip
         refine goes_ Try.func17 (by kernel_rfl) rfl #[.slice A0 l0.length c0] (by rfl) rfl rfl zM ?_
         with_reducible refine (laws_toEntryS.calls l8 _ _ l0 k7 _ ?s1 ?s2 R6.out).mono ?_
         (case s1 => exact zC (Kd.C_below B9.out HB.out))
         (case s2 => exact C0.out)
         rintro e w24 ⟨E7, rfl, a4, hb⟩
         refine ⟨_, rfl, ?_⟩
         have e9 := zA (Kd.S_lower a4 (below_size (zW HB.out))); replace a0 := zb a0 hb; replace HB := zh HB hb
         (try clear hb a4)
         refine hK.out _ _ zO fun hHeld => ?_
         clear hK K; refine zn ?_
         refine two_ (i := 4) (j := 9) (Ni := some 37) (Nj := some 8) #[true, true, true, true, true, false, false, false, false, false, false, false] #[true, true, true, true, false, false, false, false, false, true, false, false] rfl rfl rfl rfl (two_of HT_.out (by kernel_rfl)) (by decide) (by decide) (fun K hK => ?_) (fun K hK => ?_)
         ·skip
          refine goes_ Try.func18 (by kernel_rfl) rfl #[.agg #[.int .i64 e1, .int .i64 e2, .int .i64 e3, .slice g7 d9.length g8]] (by rfl) rfl rfl zM ?_
          with_reducible refine (laws_toVer.calls l8 e1 e2 e3 _ _ d9 m4 m5 m6 k1 _ ?s1 ?s2 N4.out).mono ?_
          (case s1 => exact zC (Kd.C_below o6.out HB.out))
          (case s2 => exact o7.out)
          rintro e T2 ⟨m7, rfl, a4, hb⟩
          refine ⟨_, rfl, ?_⟩
          replace e9 := zA (Kd.S_elder' (by (with_reducible repeat (first | apply Kd.S_alloc | apply Kd.S_drewN | apply Kd.S_drew)); exact e9.out) (Kd.R_base a4) hb); have f2 := zA (Kd.R_lower a4 (below_size (zW HB.out))); replace a0 := zb a0 hb; replace HB := zh HB hb
          (try clear hb a4)
          obtain ⟨T3, T4, T5⟩ := Kd.S_slice e9.out
          (first | subst T5 | (injection T5 with f1_ f2_ f3_; have g3 := f1_.symm; have g4 := f3_.symm; clear f1_ f2_ f3_; subst g3; subst g4))
          obtain ⟨n4, n5, n6⟩ := Kd.R_slice f2.out
          (first | subst n6 | (injection n6 with f1_ f2_ f3_; have g3 := f1_.symm; have g4 := f3_.symm; clear f1_ f2_ f3_; subst g3; subst g4))
          refine hK.out _ _ zO fun hHeld => ?_
          clear hK K; refine zn ?_
          refine two_ (i := 5) (j := 9) (Ni := some 38) (Nj := some 8) #[true, true, true, true, true, true, false, false, false, false, false, false] #[true, true, true, true, true, false, false, false, false, true, false, false] rfl rfl rfl rfl (two_of HT_.out (by kernel_rfl)) (by decide) (by decide) (fun K hK => ?_) (fun K hK => ?_)
          ·skip
           refine goes_ Try.func16 (by kernel_rfl) rfl #[.slice T3 k7.length T4, .string a1, .agg #[.int .i64 m4, .int .i64 m5, .int .i64 m6, .slice n4 k1.length n5]] (by rfl) rfl rfl zM ?_
           with_reducible refine (spec_EntryOf.calls l8 _ _ k7 a1 m4 m5 m6 _ _ k1 e7 f0 f4 f7 a6 b1 i9 _ ?s1 ?s2 ?s3 ?s4 E6.out).mono ?_
           (case s1 => repeat (first | exact (Kd.S_reads' e9.out).2.2 | (with_reducible refine Kd.C_alloc ?_ _) | (with_reducible refine Kd.C_drewN ?_ _) | (with_reducible refine Kd.C_drew ?_)))
           (case s2 => exact (Kd.S_reads' e9.out).2.1)
           (case s3 => repeat (first | exact (Kd.R_reads' f2.out).2.2 | (with_reducible refine Kd.C_alloc ?_ _) | (with_reducible refine Kd.C_drewN ?_ _) | (with_reducible refine Kd.C_drew ?_)))
           (case s4 => exact (Kd.R_reads' f2.out).2.1)
           rintro e w28 ⟨n7, o4, rfl, a4, f9, hb⟩
           refine ⟨_, rfl, ?_⟩
           replace e9 := zA (Kd.S_mono (Kd.S_told (Kd.S_told (Kd.S_old (by (with_reducible repeat (first | apply Kd.S_alloc | apply Kd.S_drewN | apply Kd.S_drew)); exact e9.out) hb) (Kd.R_base a4)) (Kd.R_base f9)) (fun _ h_ => h_.1)); have g9 := zA (Kd.R_lower (Kd.R_new' a4 (Kd.R_lt (zR f2.out))) (below_size (zW HB.out))); replace f2 := zA (Kd.R_elder' (zR f2.out) (Kd.R_base a4) hb); have h0 := zA (Kd.R_lower f9 (below_size (zW HB.out))); replace a0 := zb a0 hb; replace HB := zh HB hb
           (try clear hb a4 f9)
           refine hK.out _ _ zO fun hHeld => ?_
           clear hK K; refine zn ?_; refine zp 6 32 ?_; refine zp 7 39 ?_; refine zp 8 40 ?_
           refine zo 9 (some 8) fun K hK => ?_
           refine box_step ?hg (N := 8) ?hd (cs := #[.string (⟨#[]⟩ : ByteArray), .int .i64 0, .int .i64 0, .int .i64 0, .slice none 0 0, .slice none 0 0]) (t := 44) ?hr ?_; (case hd => rfl); (case hg => rfl); (case hr => first | (go_simp; done) | (go_simp; rfl))
           intro b6 hg N6 hbox hb
           replace e9 := zA (Kd.S_below (Kd.S_elderB (by (with_reducible repeat (first | apply Kd.S_alloc | apply Kd.S_drewN | apply Kd.S_drew)); exact e9.out) b6 (Nat.le_of_eq hg.symm)) hb); replace f2 := zr f2 hb; replace g9 := zr g9 hb; replace h0 := zr h0 hb; have a2 := zA (hbox); have p5 := zi HB hg; have n8 := zi HB hg; replace HB := zh HB hb; have g0 := zA (zL hg (zK a0.out)); have i3 := zA (zJ hg (zK a0.out)); replace a0 := zb a0 hb; clear hb hbox hg
           refine hK.out _ _ zO fun hHeld => ?_
           clear hK K; refine zn ?_
           exact norm_ (by simp only [putAll, Act.put, zT]) (hCont (.slice T3 k7.length T4, .slice n4 k1.length n5, n7, o4, b6) _ ⟨hHeld, (by (with_reducible repeat (first | apply Kd.S_alloc | apply Kd.S_drewN | apply Kd.S_drew)); exact Kd.S_mono e9.out (fun _ hk => ⟨hk.1.1.1.2, ⟨hk.1.1.2, ⟨hk.1.2, hk.2⟩⟩⟩)), (zR (Kd.R_mono f2.out (fun _ hk => hk.2))), (zR (Kd.R_mono g9.out (fun _ hk => hk.2))), (zR h0.out), (zK a0.out), (zK a2.out), p5.out, n8.out, g0.out, i3.out, (zW HB.out)⟩)
          ·skip
           refine box_step ?hg (N := 8) ?hd (cs := #[.string (⟨#[]⟩ : ByteArray), .int .i64 0, .int .i64 0, .int .i64 0, .slice none 0 0, .slice none 0 0]) (t := 44) ?hr ?_; (case hd => rfl); (case hg => rfl); (case hr => first | (go_simp; done) | (go_simp; rfl))
           intro b6 hg T6 hbox hb
           replace e9 := zA (Kd.S_below (Kd.S_elderB (by (with_reducible repeat (first | apply Kd.S_alloc | apply Kd.S_drewN | apply Kd.S_drew)); exact e9.out) b6 (Nat.le_of_eq hg.symm)) hb); replace f2 := zr f2 hb; have a2 := zA (hbox); have p5 := zi HB hg; have n8 := zi HB hg; replace HB := zh HB hb; have g0 := zA (zL hg (zK a0.out)); have i3 := zA (zJ hg (zK a0.out)); replace a0 := zb a0 hb; clear hb hbox hg; obtain ⟨n4, n5, n6⟩ := Kd.S_slice e9.out
           (first | subst n6 | (injection n6 with f1_ f2_ f3_; have g3 := f1_.symm; have g4 := f3_.symm; clear f1_ f2_ f3_; subst g3; subst g4))
           obtain ⟨p6, p7, p8⟩ := Kd.R_slice f2.out
           (first | subst p8 | (injection p8 with f1_ f2_ f3_; have g3 := f1_.symm; have g4 := f3_.symm; clear f1_ f2_ f3_; subst g3; subst g4))
           refine hK.out _ _ zO fun hHeld => ?_
           clear hK K; refine zn ?_
           refine zo 5 (some 38) fun K hK => ?_
           refine goes_ Try.func16 (by kernel_rfl) rfl #[.slice n4 k7.length n5, .string a1, .agg #[.int .i64 m4, .int .i64 m5, .int .i64 m6, .slice p6 k1.length p7]] (by rfl) rfl rfl zM ?_
           with_reducible refine (spec_EntryOf.calls l8 _ _ k7 a1 m4 m5 m6 _ _ k1 e7 f0 f4 f7 a6 b1 i9 _ ?s1 ?s2 ?s3 ?s4 E6.out).mono ?_
           (case s1 => repeat (first | exact (Kd.S_reads' e9.out).2.2 | (with_reducible refine Kd.C_alloc ?_ _) | (with_reducible refine Kd.C_drewN ?_ _) | (with_reducible refine Kd.C_drew ?_)))
           (case s2 => exact (Kd.S_reads' e9.out).2.1)
           (case s3 => repeat (first | exact (Kd.R_reads' f2.out).2.2 | (with_reducible refine Kd.C_alloc ?_ _) | (with_reducible refine Kd.C_drewN ?_ _) | (with_reducible refine Kd.C_drew ?_)))
           (case s4 => exact (Kd.R_reads' f2.out).2.1)
           rintro e N6 ⟨n7, o4, rfl, a4, f9, hb⟩
           refine ⟨_, rfl, ?_⟩
           replace e9 := zA (Kd.S_mono (Kd.S_told (Kd.S_told (Kd.S_old (by (with_reducible repeat (first | apply Kd.S_alloc | apply Kd.S_drewN | apply Kd.S_drew)); exact e9.out) hb) (Kd.R_base a4)) (Kd.R_base f9)) (fun _ h_ => h_.1)); have g9 := zA (Kd.R_lower (Kd.R_new' a4 (Kd.R_lt (zR f2.out))) (below_size (zW HB.out))); replace f2 := zA (Kd.R_elder' (zR f2.out) (Kd.R_base a4) hb); have h0 := zA (Kd.R_lower f9 (below_size (zW HB.out))); replace a0 := zb a0 hb; replace a2 := zb a2 hb; replace HB := zh HB hb
           (try clear hb a4 f9)
           refine hK.out _ _ zO fun hHeld => ?_
           clear hK K; refine zn ?_; refine zp 6 32 ?_; refine zp 7 39 ?_; refine zp 8 40 ?_
           exact norm_ (by simp only [putAll, Act.put, zT]) (hCont (.slice n4 k7.length n5, .slice p6 k1.length p7, n7, o4, b6) _ ⟨hHeld, (by (with_reducible repeat (first | apply Kd.S_alloc | apply Kd.S_drewN | apply Kd.S_drew)); exact Kd.S_mono e9.out (fun _ hk => ⟨hk.1.1.1.2, ⟨hk.1.2, ⟨hk.2, hk.1.1.2⟩⟩⟩)), (zR (Kd.R_mono f2.out (fun _ hk => hk.2))), (zR (Kd.R_mono g9.out (fun _ hk => hk.2))), (zR h0.out), (zK a0.out), (zK a2.out), p5.out, n8.out, g0.out, i3.out, (zW HB.out)⟩)
         ·skip
          refine box_step ?hg (N := 8) ?hd (cs := #[.string (⟨#[]⟩ : ByteArray), .int .i64 0, .int .i64 0, .int .i64 0, .slice none 0 0, .slice none 0 0]) (t := 44) ?hr ?_; (case hd => rfl); (case hg => rfl); (case hr => first | (go_simp; done) | (go_simp; rfl))
          intro b6 hg T2 hbox hb
          replace e9 := zA (Kd.S_below (Kd.S_elderB (by (with_reducible repeat (first | apply Kd.S_alloc | apply Kd.S_drewN | apply Kd.S_drew)); exact e9.out) b6 (Nat.le_of_eq hg.symm)) hb); have a2 := zA (hbox); have p5 := zi HB hg; have n8 := zi HB hg; replace HB := zh HB hb; have g0 := zA (zL hg (zK a0.out)); have i3 := zA (zJ hg (zK a0.out)); replace a0 := zb a0 hb; clear hb hbox hg
          refine hK.out _ _ zO fun hHeld => ?_
          clear hK K; refine zn ?_
          refine zo 4 (some 37) fun K hK => ?_
          refine goes_ Try.func18 (by kernel_rfl) rfl #[.agg #[.int .i64 e1, .int .i64 e2, .int .i64 e3, .slice g7 d9.length g8]] (by rfl) rfl rfl zM ?_
          with_reducible refine (laws_toVer.calls l8 e1 e2 e3 _ _ d9 m4 m5 m6 k1 _ ?s1 ?s2 N4.out).mono ?_
          (case s1 => exact zC (Kd.C_below o6.out HB.out))
          (case s2 => exact o7.out)
          rintro e T6 ⟨m7, rfl, a4, hb⟩
          refine ⟨_, rfl, ?_⟩
          replace e9 := zA (Kd.S_elder' (by (with_reducible repeat (first | apply Kd.S_alloc | apply Kd.S_drewN | apply Kd.S_drew)); exact e9.out) (Kd.R_base a4) hb); have f2 := zA (Kd.R_lower a4 (below_size (zW HB.out))); replace a0 := zb a0 hb; replace a2 := zb a2 hb; replace HB := zh HB hb
          (try clear hb a4)
          obtain ⟨n4, n5, n6⟩ := Kd.S_slice e9.out
          (first | subst n6 | (injection n6 with f1_ f2_ f3_; have g3 := f1_.symm; have g4 := f3_.symm; clear f1_ f2_ f3_; subst g3; subst g4))
          obtain ⟨p6, p7, p8⟩ := Kd.R_slice f2.out
          (first | subst p8 | (injection p8 with f1_ f2_ f3_; have g3 := f1_.symm; have g4 := f3_.symm; clear f1_ f2_ f3_; subst g3; subst g4))
          refine hK.out _ _ zO fun hHeld => ?_
          clear hK K; refine zn ?_
          refine zo 5 (some 38) fun K hK => ?_
          refine goes_ Try.func16 (by kernel_rfl) rfl #[.slice n4 k7.length n5, .string a1, .agg #[.int .i64 m4, .int .i64 m5, .int .i64 m6, .slice p6 k1.length p7]] (by rfl) rfl rfl zM ?_
          with_reducible refine (spec_EntryOf.calls l8 _ _ k7 a1 m4 m5 m6 _ _ k1 e7 f0 f4 f7 a6 b1 i9 _ ?s1 ?s2 ?s3 ?s4 E6.out).mono ?_
          (case s1 => repeat (first | exact (Kd.S_reads' e9.out).2.2 | (with_reducible refine Kd.C_alloc ?_ _) | (with_reducible refine Kd.C_drewN ?_ _) | (with_reducible refine Kd.C_drew ?_)))
          (case s2 => exact (Kd.S_reads' e9.out).2.1)
          (case s3 => repeat (first | exact (Kd.R_reads' f2.out).2.2 | (with_reducible refine Kd.C_alloc ?_ _) | (with_reducible refine Kd.C_drewN ?_ _) | (with_reducible refine Kd.C_drew ?_)))
          (case s4 => exact (Kd.R_reads' f2.out).2.1)
          rintro e N6 ⟨n7, o4, rfl, a4, f9, hb⟩
          refine ⟨_, rfl, ?_⟩
          replace e9 := zA (Kd.S_mono (Kd.S_told (Kd.S_told (Kd.S_old (by (with_reducible repeat (first | apply Kd.S_alloc | apply Kd.S_drewN | apply Kd.S_drew)); exact e9.out) hb) (Kd.R_base a4)) (Kd.R_base f9)) (fun _ h_ => h_.1)); have g9 := zA (Kd.R_lower (Kd.R_new' a4 (Kd.R_lt (zR f2.out))) (below_size (zW HB.out))); replace f2 := zA (Kd.R_elder' (zR f2.out) (Kd.R_base a4) hb); have h0 := zA (Kd.R_lower f9 (below_size (zW HB.out))); replace a0 := zb a0 hb; replace a2 := zb a2 hb; replace HB := zh HB hb
          (try clear hb a4 f9)
          refine hK.out _ _ zO fun hHeld => ?_
          clear hK K; refine zn ?_; refine zp 6 32 ?_; refine zp 7 39 ?_; refine zp 8 40 ?_
          exact norm_ (by simp only [putAll, Act.put, zT]) (hCont (.slice n4 k7.length n5, .slice p6 k1.length p7, n7, o4, b6) _ ⟨hHeld, (by (with_reducible repeat (first | apply Kd.S_alloc | apply Kd.S_drewN | apply Kd.S_drew)); exact Kd.S_mono e9.out (fun _ hk => ⟨hk.1.1.2, ⟨hk.1.2, ⟨hk.2, hk.1.1.1.2⟩⟩⟩)), (zR (Kd.R_mono f2.out (fun _ hk => hk.2))), (zR (Kd.R_mono g9.out (fun _ hk => hk.2))), (zR h0.out), (zK a0.out), (zK a2.out), p5.out, n8.out, g0.out, i3.out, (zW HB.out)⟩)
        ·skip
         refine box_step ?hg (N := 8) ?hd (cs := #[.string (⟨#[]⟩ : ByteArray), .int .i64 0, .int .i64 0, .int .i64 0, .slice none 0 0, .slice none 0 0]) (t := 44) ?hr ?_; (case hd => rfl); (case hg => rfl); (case hr => first | (go_simp; done) | (go_simp; rfl))
         intro b6 hg w24 hbox hb
         have a2 := zA (hbox); have p5 := zi HB hg; have n8 := zi HB hg; replace HB := zh HB hb; have g0 := zA (zL hg (zK a0.out)); have i3 := zA (zJ hg (zK a0.out)); replace a0 := zb a0 hb; clear hb hbox hg
         refine hK.out _ _ zO fun hHeld => ?_
         clear hK K; refine zn ?_
         refine zo 1 (some 34) fun K hK => ?_
         refine goes_ Try.func17 (by kernel_rfl) rfl #[.slice A0 l0.length c0] (by rfl) rfl rfl zM ?_
         with_reducible refine (laws_toEntryS.calls l8 _ _ l0 k7 _ ?s1 ?s2 R6.out).mono ?_
         (case s1 => exact zC (Kd.C_below B9.out HB.out))
         (case s2 => exact C0.out)
         rintro e T2 ⟨E7, rfl, a4, hb⟩
         refine ⟨_, rfl, ?_⟩
         have e9 := zA (Kd.S_lower (Kd.S_newB a4 (g := b6) (o := .cells #[.string (⟨#[]⟩ : ByteArray), .int .i64 0, .int .i64 0, .int .i64 0, .slice none 0 0, .slice none 0 0] 44 (0, 0)) (zK a2.out)) (below_size (zW HB.out))); replace a0 := zb a0 hb; replace a2 := zb a2 hb; replace HB := zh HB hb
         (try clear hb a4)
         refine hK.out _ _ zO fun hHeld => ?_
         clear hK K; refine zn ?_
         refine zo 4 (some 37) fun K hK => ?_
         refine goes_ Try.func18 (by kernel_rfl) rfl #[.agg #[.int .i64 e1, .int .i64 e2, .int .i64 e3, .slice g7 d9.length g8]] (by rfl) rfl rfl zM ?_
         with_reducible refine (laws_toVer.calls l8 e1 e2 e3 _ _ d9 m4 m5 m6 k1 _ ?s1 ?s2 N4.out).mono ?_
         (case s1 => exact zC (Kd.C_below o6.out HB.out))
         (case s2 => exact o7.out)
         rintro e T6 ⟨m7, rfl, a4, hb⟩
         refine ⟨_, rfl, ?_⟩
         replace e9 := zA (Kd.S_elder' (by (with_reducible repeat (first | apply Kd.S_alloc | apply Kd.S_drewN | apply Kd.S_drew)); exact e9.out) (Kd.R_base a4) hb); have f2 := zA (Kd.R_lower a4 (below_size (zW HB.out))); replace a0 := zb a0 hb; replace a2 := zb a2 hb; replace HB := zh HB hb
         (try clear hb a4)
         obtain ⟨n4, n5, n6⟩ := Kd.S_slice e9.out
         (first | subst n6 | (injection n6 with f1_ f2_ f3_; have g3 := f1_.symm; have g4 := f3_.symm; clear f1_ f2_ f3_; subst g3; subst g4))
         obtain ⟨p6, p7, p8⟩ := Kd.R_slice f2.out
         (first | subst p8 | (injection p8 with f1_ f2_ f3_; have g3 := f1_.symm; have g4 := f3_.symm; clear f1_ f2_ f3_; subst g3; subst g4))
         refine hK.out _ _ zO fun hHeld => ?_
         clear hK K; refine zn ?_
         refine zo 5 (some 38) fun K hK => ?_
         refine goes_ Try.func16 (by kernel_rfl) rfl #[.slice n4 k7.length n5, .string a1, .agg #[.int .i64 m4, .int .i64 m5, .int .i64 m6, .slice p6 k1.length p7]] (by rfl) rfl rfl zM ?_
         with_reducible refine (spec_EntryOf.calls l8 _ _ k7 a1 m4 m5 m6 _ _ k1 e7 f0 f4 f7 a6 b1 i9 _ ?s1 ?s2 ?s3 ?s4 E6.out).mono ?_
         (case s1 => repeat (first | exact (Kd.S_reads' e9.out).2.2 | (with_reducible refine Kd.C_alloc ?_ _) | (with_reducible refine Kd.C_drewN ?_ _) | (with_reducible refine Kd.C_drew ?_)))
         (case s2 => exact (Kd.S_reads' e9.out).2.1)
         (case s3 => repeat (first | exact (Kd.R_reads' f2.out).2.2 | (with_reducible refine Kd.C_alloc ?_ _) | (with_reducible refine Kd.C_drewN ?_ _) | (with_reducible refine Kd.C_drew ?_)))
         (case s4 => exact (Kd.R_reads' f2.out).2.1)
         rintro e N6 ⟨n7, o4, rfl, a4, f9, hb⟩
         refine ⟨_, rfl, ?_⟩
         replace e9 := zA (Kd.S_mono (Kd.S_told (Kd.S_told (Kd.S_old (by (with_reducible repeat (first | apply Kd.S_alloc | apply Kd.S_drewN | apply Kd.S_drew)); exact e9.out) hb) (Kd.R_base a4)) (Kd.R_base f9)) (fun _ h_ => h_.1)); have g9 := zA (Kd.R_lower (Kd.R_new' a4 (Kd.R_lt (zR f2.out))) (below_size (zW HB.out))); replace f2 := zA (Kd.R_elder' (zR f2.out) (Kd.R_base a4) hb); have h0 := zA (Kd.R_lower f9 (below_size (zW HB.out))); replace a0 := zb a0 hb; replace a2 := zb a2 hb; replace HB := zh HB hb
         (try clear hb a4 f9)
         refine hK.out _ _ zO fun hHeld => ?_
         clear hK K; refine zn ?_; refine zp 6 32 ?_; refine zp 7 39 ?_; refine zp 8 40 ?_
         exact norm_ (by simp only [putAll, Act.put, zT]) (hCont (.slice n4 k7.length n5, .slice p6 k1.length p7, n7, o4, b6) _ ⟨hHeld, (by (with_reducible repeat (first | apply Kd.S_alloc | apply Kd.S_drewN | apply Kd.S_drew)); exact Kd.S_mono e9.out (fun _ hk => ⟨hk.1.1.2, ⟨hk.1.2, ⟨hk.2, hk.1.1.1.2⟩⟩⟩)), (zR (Kd.R_mono f2.out (fun _ hk => hk.2))), (zR (Kd.R_mono g9.out (fun _ hk => hk.2))), (zR h0.out), (zK a0.out), (zK a2.out), p5.out, n8.out, g0.out, i3.out, (zW HB.out)⟩)
       rintro ⟨E7, m7, n7, o4, b6⟩ n9 ⟨hS_, C7, C8, C9, D0, D1, D2, D3, D4, D5, D6, D7⟩
       have e9 : Aside0 (Kd.S k44 44 n9 w.heap.size (fun k_ => some k_ ≠ (m7 : Value).ownBlock ∧ some k_ ≠ (n7 : Value).ownBlock ∧ some k_ ≠ (o4 : Value).ownBlock ∧ k_ ≠ b6) E7 k7) := ⟨C7⟩; have f2 : Aside0 (Kd.R Kd.string 9 n9 w.heap.size (fun k_ => some k_ ≠ (n7 : Value).ownBlock) m7 k1) := ⟨C8⟩; have g9 : Aside0 (Kd.R Kd.string 9 n9 w.heap.size (fun k_ => some k_ ≠ (m7 : Value).ownBlock) n7 a6) := ⟨C9⟩; have h0 : Aside0 (Kd.R k94 94 n9 w.heap.size (fun _ => True) o4 b1) := ⟨D0⟩; replace a0 : Aside0 (n9.heap[e6]? = some (.cells #[.int .i64 e1, .int .i64 e2, .int .i64 e3, .slice g7 d9.length g8] 38 (0, 0))) := ⟨D1⟩; have a2 : Aside0 (n9.heap[b6]? = some (.cells #[.string (⟨#[]⟩ : ByteArray), .int .i64 0, .int .i64 0, .int .i64 0, .slice none 0 0, .slice none 0 0] 44 (0, 0))) := ⟨D2⟩; have p5 : Aside0 (w.heap.size ≤ b6) := ⟨D3⟩; have n8 : Aside0 (w.heap.size ≤ b6) := ⟨D4⟩; have g0 : Aside0 (e6 ≠ b6) := ⟨D5⟩; have i3 : Aside0 (b6 ≠ e6) := ⟨D6⟩; replace HB : Aside0 (Below w.heap.size w n9) := ⟨D7⟩; clear C7 C8 C9 D0 D1 D2 D3 D4 D5 D6 D7; have hHeld : n9.cell? ⟨e6, 0, none⟩ = some (.int .i64 e1) ∧ n9.cell? ⟨e6, 1, none⟩ = some (.int .i64 e2) ∧ n9.cell? ⟨e6, 2, none⟩ = some (.int .i64 e3) ∧ n9.cell? ⟨e6, 3, none⟩ = some (.slice g7 d9.length g8) := hS_; obtain ⟨b8, b5, T7⟩ := Kd.R_slice g9.out
       (first | subst T7 | (injection T7 with f1_ f2_ f3_; have g3 := f1_.symm; have g4 := f3_.symm; clear f1_ f2_ f3_; subst g3; subst g4))
       obtain ⟨d6, d3, T8⟩ := Kd.R_slice h0.out
       (first | subst T8 | (injection T8 with f1_ f2_ f3_; have g3 := f1_.symm; have g4 := f3_.symm; clear f1_ f2_ f3_; subst g3; subst g4))
       refine norm_ (a' := ?_) ?_ ?_
       rotate_left
       ·simp only [putAll, Act.put, zT]
        rfl
       refine zo 10 none fun K hK => ?_
       have a3j := zc0 a2.out; have a3k := zF a2.out 0; have a3l := g0.out; have a3m := i3.out; have a3n := zc1 a2.out; have a3o := zF a2.out 1; have a3p := g0.out; have a3q := i3.out; have a3r := zc2 a2.out; have a3s := zF a2.out 2; have a3t := g0.out; have a3v := i3.out; have a3x := zc3 a2.out; have a3y := zF a2.out 3; have a3z := g0.out; have a40 := i3.out; have a41 := zc4 a2.out; have a42 := zF a2.out 4; have a43 := g0.out; have a44 := i3.out; have a45 := zc5 a2.out; have a46 := zF a2.out 5; have a47 := g0.out; have a48 := i3.out
       refine skip_ (w1 := ?_) (by rfl) rfl ?_ ?_
       rotate_left
       ·go_simp
        rfl
       refine hK.out _ _ ⟨((cell_far (p := ⟨b6, _, none⟩) g0.out _).trans (((cell_far (p := ⟨b6, _, none⟩) g0.out _).trans (((cell_far (p := ⟨b6, _, none⟩) g0.out _).trans (((cell_far (p := ⟨b6, _, none⟩) g0.out _).trans (((cell_far (p := ⟨b6, _, none⟩) g0.out _).trans (((cell_far (p := ⟨b6, _, none⟩) g0.out _).trans (hHeld.1)))))))))))), ((cell_far (p := ⟨b6, _, none⟩) g0.out _).trans (((cell_far (p := ⟨b6, _, none⟩) g0.out _).trans (((cell_far (p := ⟨b6, _, none⟩) g0.out _).trans (((cell_far (p := ⟨b6, _, none⟩) g0.out _).trans (((cell_far (p := ⟨b6, _, none⟩) g0.out _).trans (((cell_far (p := ⟨b6, _, none⟩) g0.out _).trans (hHeld.2.1)))))))))))), ((cell_far (p := ⟨b6, _, none⟩) g0.out _).trans (((cell_far (p := ⟨b6, _, none⟩) g0.out _).trans (((cell_far (p := ⟨b6, _, none⟩) g0.out _).trans (((cell_far (p := ⟨b6, _, none⟩) g0.out _).trans (((cell_far (p := ⟨b6, _, none⟩) g0.out _).trans (((cell_far (p := ⟨b6, _, none⟩) g0.out _).trans (hHeld.2.2.1)))))))))))), ((cell_far (p := ⟨b6, _, none⟩) g0.out _).trans (((cell_far (p := ⟨b6, _, none⟩) g0.out _).trans (((cell_far (p := ⟨b6, _, none⟩) g0.out _).trans (((cell_far (p := ⟨b6, _, none⟩) g0.out _).trans (((cell_far (p := ⟨b6, _, none⟩) g0.out _).trans (((cell_far (p := ⟨b6, _, none⟩) g0.out _).trans (hHeld.2.2.2))))))))))))⟩ (fun hHeld => ?_)
       clear hK K; refine zp 11 9 ?_
       refine done_ (done_of HT_.out (by kernel_rfl)) ?_
       go_upto_region 14 with (first | ((with_reducible refine zq 17 ?_); refine zg (some 42) Try.func17 #[.slice A0 l0.length c0] ?_; (with_reducible refine (laws_toEntryS.calls l8 _ _ l0 i2 _ ?s1 ?s2 A19.out).mono ?_); (case s1 => exact Kd.C_below B9.out (zW HB.out)); (case s2 => exact C0.out); rintro e w39 ⟨a4a, rfl, a4, hb⟩; refine ⟨_, rfl, ?_⟩; have k2 := zA (Kd.S_lower (Kd.S_newB (Kd.S_new' (Kd.S_new' (Kd.S_new' (Kd.S_new' a4 (Kd.S_lt (by (with_reducible repeat (first | apply Kd.S_alloc | apply Kd.S_drewN | apply Kd.S_drew)); exact (Kd.S_mono (Kd.S_far (p := ⟨b6, 5, none⟩) (Kd.S_far (p := ⟨b6, 4, none⟩) (Kd.S_far (p := ⟨b6, 3, none⟩) (Kd.S_far (p := ⟨b6, 2, none⟩) (Kd.S_far (p := ⟨b6, 1, none⟩) (Kd.S_far (p := ⟨b6, 0, none⟩) (Kd.S_mono e9.out (fun k_ hk => (⟨hk, hk.2.2.2⟩ : _ ∧ k_ ≠ b6))) (fun _ hk => hk.2) (.string e7)) (fun _ hk => hk.2) (.int .i64 f0)) (fun _ hk => hk.2) (.int .i64 f4)) (fun _ hk => hk.2) (.int .i64 f7)) (fun _ hk => hk.2) (.slice b8 a6.length b5)) (fun _ hk => hk.2) (.slice d6 b1.length d3)) (fun _ h_ => h_.1))))) (Kd.R_lt (zR (zr6 f2.out a2.out)))) (Kd.R_lt (zR (zr6 g9.out a2.out)))) (Kd.R_lt (zR (zr6 h0.out a2.out)))) (g := b6) (o := .cells #[.string e7, .int .i64 f0, .int .i64 f4, .int .i64 f7, .slice b8 a6.length b5, .slice d6 b1.length d3] 44 (0, 0)) (by (with_reducible repeat (first | refine blk_drewN ?_ _ | refine blk_drew ?_ | refine blk_alloc ?_ _)); refine blk_put (cs := #[.string e7, .int .i64 f0, .int .i64 f4, .int .i64 f7, .slice b8 a6.length b5, .slice none 0 0]) ?_ 5 _ rfl; (with_reducible repeat (first | refine blk_drewN ?_ _ | refine blk_drew ?_ | refine blk_alloc ?_ _)); refine blk_put (cs := #[.string e7, .int .i64 f0, .int .i64 f4, .int .i64 f7, .slice none 0 0, .slice none 0 0]) ?_ 4 _ rfl; (with_reducible repeat (first | refine blk_drewN ?_ _ | refine blk_drew ?_ | refine blk_alloc ?_ _)); refine blk_put (cs := #[.string e7, .int .i64 f0, .int .i64 f4, .int .i64 0, .slice none 0 0, .slice none 0 0]) ?_ 3 _ rfl; (with_reducible repeat (first | refine blk_drewN ?_ _ | refine blk_drew ?_ | refine blk_alloc ?_ _)); refine blk_put (cs := #[.string e7, .int .i64 f0, .int .i64 0, .int .i64 0, .slice none 0 0, .slice none 0 0]) ?_ 2 _ rfl; (with_reducible repeat (first | refine blk_drewN ?_ _ | refine blk_drew ?_ | refine blk_alloc ?_ _)); refine blk_put (cs := #[.string e7, .int .i64 0, .int .i64 0, .int .i64 0, .slice none 0 0, .slice none 0 0]) ?_ 1 _ rfl; (with_reducible repeat (first | refine blk_drewN ?_ _ | refine blk_drew ?_ | refine blk_alloc ?_ _)); refine blk_put (cs := #[.string (⟨#[]⟩ : ByteArray), .int .i64 0, .int .i64 0, .int .i64 0, .slice none 0 0, .slice none 0 0]) ?_ 0 _ rfl; (with_reducible repeat (first | refine blk_drewN ?_ _ | refine blk_drew ?_ | refine blk_alloc ?_ _)); exact a2.out)) (below_size (zW HB.out))); replace e9 := zA (Kd.S_elder' (by (with_reducible repeat (first | apply Kd.S_alloc | apply Kd.S_drewN | apply Kd.S_drew)); exact (Kd.S_mono (Kd.S_far (p := ⟨b6, 5, none⟩) (Kd.S_far (p := ⟨b6, 4, none⟩) (Kd.S_far (p := ⟨b6, 3, none⟩) (Kd.S_far (p := ⟨b6, 2, none⟩) (Kd.S_far (p := ⟨b6, 1, none⟩) (Kd.S_far (p := ⟨b6, 0, none⟩) (Kd.S_mono e9.out (fun k_ hk => (⟨hk, hk.2.2.2⟩ : _ ∧ k_ ≠ b6))) (fun _ hk => hk.2) (.string e7)) (fun _ hk => hk.2) (.int .i64 f0)) (fun _ hk => hk.2) (.int .i64 f4)) (fun _ hk => hk.2) (.int .i64 f7)) (fun _ hk => hk.2) (.slice b8 a6.length b5)) (fun _ hk => hk.2) (.slice d6 b1.length d3)) (fun _ h_ => h_.1))) (Kd.S_base a4) hb); replace f2 := zA (Kd.R_below (zR (zr6 f2.out a2.out)) hb); replace g9 := zA (Kd.R_below (zR (zr6 g9.out a2.out)) hb); replace h0 := zA (Kd.R_below (zR (zr6 h0.out a2.out)) hb); replace a0 := zb a0 hb; replace a2 := zA (blk_below (g := b6) (o := .cells #[.string e7, .int .i64 f0, .int .i64 f4, .int .i64 f7, .slice b8 a6.length b5, .slice d6 b1.length d3] 44 (0, 0)) (by (with_reducible repeat (first | refine blk_drewN ?_ _ | refine blk_drew ?_ | refine blk_alloc ?_ _)); refine blk_put (cs := #[.string e7, .int .i64 f0, .int .i64 f4, .int .i64 f7, .slice b8 a6.length b5, .slice none 0 0]) ?_ 5 _ rfl; (with_reducible repeat (first | refine blk_drewN ?_ _ | refine blk_drew ?_ | refine blk_alloc ?_ _)); refine blk_put (cs := #[.string e7, .int .i64 f0, .int .i64 f4, .int .i64 f7, .slice none 0 0, .slice none 0 0]) ?_ 4 _ rfl; (with_reducible repeat (first | refine blk_drewN ?_ _ | refine blk_drew ?_ | refine blk_alloc ?_ _)); refine blk_put (cs := #[.string e7, .int .i64 f0, .int .i64 f4, .int .i64 0, .slice none 0 0, .slice none 0 0]) ?_ 3 _ rfl; (with_reducible repeat (first | refine blk_drewN ?_ _ | refine blk_drew ?_ | refine blk_alloc ?_ _)); refine blk_put (cs := #[.string e7, .int .i64 f0, .int .i64 0, .int .i64 0, .slice none 0 0, .slice none 0 0]) ?_ 2 _ rfl; (with_reducible repeat (first | refine blk_drewN ?_ _ | refine blk_drew ?_ | refine blk_alloc ?_ _)); refine blk_put (cs := #[.string e7, .int .i64 0, .int .i64 0, .int .i64 0, .slice none 0 0, .slice none 0 0]) ?_ 1 _ rfl; (with_reducible repeat (first | refine blk_drewN ?_ _ | refine blk_drew ?_ | refine blk_alloc ?_ _)); refine blk_put (cs := #[.string (⟨#[]⟩ : ByteArray), .int .i64 0, .int .i64 0, .int .i64 0, .slice none 0 0, .slice none 0 0]) ?_ 0 _ rfl; (with_reducible repeat (first | refine blk_drewN ?_ _ | refine blk_drew ?_ | refine blk_alloc ?_ _)); exact a2.out) hb); replace HB := zh HB hb; (try clear hb a4); have a4b := g0.out; have a4c := i3.out; obtain ⟨p9, q0, q1, q2, q3, q4, q5, q6⟩ := ze4 a0.out) | ((with_reducible refine zq 18 ?_); refine zg (some 44) Try.func18 #[.agg #[.int .i64 e1, .int .i64 e2, .int .i64 e3, .slice g7 d9.length g8]] ?_; (with_reducible refine (laws_toVer.calls l8 e1 e2 e3 _ _ d9 h5 h6 h7 e0 _ ?s1 ?s2 A20.out).mono ?_); (case s1 => exact zC (Kd.C_below o6.out HB.out)); (case s2 => exact o7.out); rintro e w42 ⟨a4e, rfl, a4, hb⟩; refine ⟨_, rfl, ?_⟩; replace e9 := zA (Kd.S_elder' (by (with_reducible repeat (first | apply Kd.S_alloc | apply Kd.S_drewN | apply Kd.S_drew)); exact e9.out) (Kd.R_base a4) hb); replace h0 := zr h0 hb; replace k2 := zA (Kd.S_elder' (by (with_reducible repeat (first | apply Kd.S_alloc | apply Kd.S_drewN | apply Kd.S_drew)); exact k2.out) (Kd.R_base a4) hb); have k8 := zA (Kd.R_lower (Kd.R_new' (Kd.R_new' a4 (Kd.R_lt (zR f2.out))) (Kd.R_lt (zR g9.out))) (below_size (zW HB.out))); replace f2 := zA (Kd.R_elder' (zR f2.out) (Kd.R_base a4) hb); replace g9 := zA (Kd.R_elder' (zR g9.out) (Kd.R_base a4) hb); replace a0 := zb a0 hb; replace a2 := zb a2 hb; replace HB := zh HB hb; (try clear hb a4)) | ((with_reducible refine zd 11 ?_); refine ze 11 41 #[.int .i64 0, .int .i64 0, .int .i64 0, .slice none 0 0] ?_; intro h1 hg w43 hbox hb; replace e9 := zA (Kd.S_below (by (with_reducible repeat (first | apply Kd.S_alloc | apply Kd.S_drewN | apply Kd.S_drew)); exact e9.out) hb); replace f2 := zr f2 hb; replace g9 := zr g9 hb; replace h0 := zr h0 hb; replace k2 := zA (Kd.S_below (by (with_reducible repeat (first | apply Kd.S_alloc | apply Kd.S_drewN | apply Kd.S_drew)); exact k2.out) hb); replace k8 := zr k8 hb; have a5 := zA (hbox); have a4g := zi HB hg; have N7 := zi HB hg; replace HB := zh HB hb; have T9 := zA (zL hg (zK a0.out)); have U0 := zA (zJ hg (zK a0.out)); replace a0 := zb a0 hb; have q7 := zA (zL hg (zK a2.out)); have q8 := zA (zJ hg (zK a2.out)); replace a2 := zb a2 hb; clear hb hbox hg; have a4h := U0.out; have a4i := T9.out; have a4j := q8.out; have a4k := q7.out; obtain ⟨q9, r0, r1, r2, r3, r4, r5, r6⟩ := ze4 a5.out; obtain ⟨b9, b7, a2c⟩ := Kd.R_slice k8.out; subst a2c; obtain ⟨r7, o8, a2d⟩ := Kd.S_slice k2.out; subst a2d) | ((with_reducible refine zq 19 ?_); refine zg (some 49) Try.func19 #[.slice r7 i2.length o8, .string a1, .agg #[.int .i64 h5, .int .i64 h6, .int .i64 h7, .slice b9 e0.length b7]] ?_; (with_reducible refine (impl_EntryOf.calls l8 _ _ i2 a1 h5 h6 h7 _ _ e0 e8 f1 f5 f8 c3 d5 C2 _ ?s1 ?s2 ?s3 ?s4 A21.out).mono ?_); (case s1 => refine (Kd.S_reads' (e := 44) (base := w.heap.size) (ok := fun k_ => ((((((True ∧ some k_ ≠ (E7 : Value).ownBlock) ∧ some k_ ≠ (m7 : Value).ownBlock) ∧ some k_ ≠ (.slice b8 a6.length b5 : Value).ownBlock) ∧ some k_ ≠ (.slice d6 b1.length d3 : Value).ownBlock) ∧ k_ ≠ b6) ∧ some k_ ≠ (.slice b9 e0.length b7 : Value).ownBlock)) (n := i2.length) (c := o8) ?_).2.2; exact (by (with_reducible repeat (first | apply Kd.S_alloc | apply Kd.S_drewN | apply Kd.S_drew)); exact (Kd.S_mono (Kd.S_far (p := ⟨h1, 3, none⟩) (Kd.S_far (p := ⟨h1, 2, none⟩) (Kd.S_far (p := ⟨h1, 1, none⟩) (Kd.S_far (p := ⟨h1, 0, none⟩) (Kd.S_types k2.out a5.out (by decide)) (fun _ hk => hk.2) (.int .i64 h5)) (fun _ hk => hk.2) (.int .i64 h6)) (fun _ hk => hk.2) (.int .i64 h7)) (fun _ hk => hk.2) (.slice b9 e0.length b7)) (fun _ h_ => h_.1)))); (case s2 => exact (Kd.S_reads' k2.out).2.1); (case s3 => refine (Kd.R_reads' (e := 9) (base := w.heap.size) (ok := fun k_ => ((True ∧ some k_ ≠ (m7 : Value).ownBlock) ∧ some k_ ≠ (.slice b8 a6.length b5 : Value).ownBlock)) (n := e0.length) (c := b7) ?_).2.2; exact (zR (zr4 k8.out a5.out))); (case s4 => exact (Kd.R_reads' k8.out).2.1); rintro e w49 ⟨a4m, a4n, rfl, a4, f9, hb⟩; refine ⟨_, rfl, ?_⟩; replace e9 := zA (Kd.S_mono (Kd.S_told (Kd.S_told (Kd.S_old (by (with_reducible repeat (first | apply Kd.S_alloc | apply Kd.S_drewN | apply Kd.S_drew)); exact (Kd.S_mono (Kd.S_far (p := ⟨h1, 3, none⟩) (Kd.S_far (p := ⟨h1, 2, none⟩) (Kd.S_far (p := ⟨h1, 1, none⟩) (Kd.S_far (p := ⟨h1, 0, none⟩) (Kd.S_types e9.out a5.out (by decide)) (fun _ hk => hk.2) (.int .i64 h5)) (fun _ hk => hk.2) (.int .i64 h6)) (fun _ hk => hk.2) (.int .i64 h7)) (fun _ hk => hk.2) (.slice b9 e0.length b7)) (fun _ h_ => h_.1))) hb) (Kd.R_base a4)) (Kd.R_base f9)) (fun _ h_ => h_.1)); replace k2 := zA (Kd.S_mono (Kd.S_told (Kd.S_told (Kd.S_old (by (with_reducible repeat (first | apply Kd.S_alloc | apply Kd.S_drewN | apply Kd.S_drew)); exact (Kd.S_mono (Kd.S_far (p := ⟨h1, 3, none⟩) (Kd.S_far (p := ⟨h1, 2, none⟩) (Kd.S_far (p := ⟨h1, 1, none⟩) (Kd.S_far (p := ⟨h1, 0, none⟩) (Kd.S_types k2.out a5.out (by decide)) (fun _ hk => hk.2) (.int .i64 h5)) (fun _ hk => hk.2) (.int .i64 h6)) (fun _ hk => hk.2) (.int .i64 h7)) (fun _ hk => hk.2) (.slice b9 e0.length b7)) (fun _ h_ => h_.1))) hb) (Kd.R_base a4)) (Kd.R_base f9)) (fun _ h_ => h_.1)); have m1 := zA (Kd.R_lower (Kd.R_new' (Kd.R_new' (Kd.R_new' a4 (Kd.R_lt (zR (zr4 f2.out a5.out)))) (Kd.R_lt (zR (zr4 g9.out a5.out)))) (Kd.R_lt (zR (zr4 k8.out a5.out)))) (below_size (zW HB.out))); replace f2 := zA (Kd.R_elder' (zR (zr4 f2.out a5.out)) (Kd.R_base a4) hb); replace g9 := zA (Kd.R_elder' (zR (zr4 g9.out a5.out)) (Kd.R_base a4) hb); replace k8 := zA (Kd.R_elder' (zR (zr4 k8.out a5.out)) (Kd.R_base a4) hb); have m2 := zA (Kd.R_lower (Kd.R_new' f9 (Kd.R_lt (zR (zr4 h0.out a5.out)))) (below_size (zW HB.out))); replace h0 := zA (Kd.R_elder' (zR (zr4 h0.out a5.out)) (Kd.R_base f9) hb); replace a0 := zb a0 hb; replace a2 := zb a2 hb; replace a5 := zA (blk_below (zk4 a5.out) hb); replace HB := zh HB hb; (try clear hb a4 f9)) | ((with_reducible refine zd 12 ?_); refine ze 12 44 #[.string (⟨#[]⟩ : ByteArray), .int .i64 0, .int .i64 0, .int .i64 0, .slice none 0 0, .slice none 0 0] ?_; intro d8 hg w50 hbox hb; replace e9 := zA (Kd.S_below (Kd.S_elderB (by (with_reducible repeat (first | apply Kd.S_alloc | apply Kd.S_drewN | apply Kd.S_drew)); exact e9.out) d8 (Nat.le_of_eq hg.symm)) hb); replace f2 := zr f2 hb; replace g9 := zr g9 hb; replace h0 := zr h0 hb; replace k2 := zA (Kd.S_below (Kd.S_elderB (by (with_reducible repeat (first | apply Kd.S_alloc | apply Kd.S_drewN | apply Kd.S_drew)); exact k2.out) d8 (Nat.le_of_eq hg.symm)) hb); replace k8 := zr k8 hb; replace m1 := zr m1 hb; replace m2 := zr m2 hb; have a3 := zA (hbox); have a4p := zi HB hg; have N8 := zi HB hg; replace HB := zh HB hb; have C3 := zA (zL hg (zK a0.out)); have C4 := zA (zJ hg (zK a0.out)); replace a0 := zb a0 hb; have o9 := zA (zL hg (zK a2.out)); have p0 := zA (zJ hg (zK a2.out)); replace a2 := zb a2 hb; have r8 := zA (zL hg (zK a5.out)); have r9 := zA (zJ hg (zK a5.out)); replace a5 := zb a5 hb; clear hb hbox hg; have a4q := C4.out; have a4r := C3.out; have a4s := p0.out; have a4t := o9.out; have a4v := r9.out; have a4x := r8.out; obtain ⟨t0, t1, t2, t3, t4, t5, t6, t7, t8, t9, v0, v1⟩ := ze6 a3.out; obtain ⟨b4, b3, a2e⟩ := Kd.R_slice m1.out; subst a2e; obtain ⟨d1, d0, a2f⟩ := Kd.R_slice m2.out; subst a2f))
       (try simp only [Act.put, zT])
       go_cut [60] (fun v60 wc => ∃ (kq : Nat) (N9 : Bool), v60 = .bool N9 ∧ Aside0 (laws_FnExactEntryOf.j3 kq l0 a1 i9 i2 C2 N9 e1 e2 e3 d9 e7 f0 f4 f7 a6 b1 h5 h6 h7 e0 e8 f1 f5 f8 c3 d5 = some r) ∧ Aside0 (kq ≤ l8) ∧ Aside0 (Kd.S k44 44 wc w.heap.size (fun k_ => some k_ ≠ ((.slice b8 a6.length b5) : Value).ownBlock ∧ some k_ ≠ ((.slice d6 b1.length d3) : Value).ownBlock ∧ some k_ ≠ ((.slice b9 e0.length b7) : Value).ownBlock ∧ some k_ ≠ ((.slice b4 c3.length b3) : Value).ownBlock ∧ some k_ ≠ ((.slice d1 d5.length d0) : Value).ownBlock ∧ k_ ≠ b6 ∧ k_ ≠ d8) (.slice r7 i2.length o8) i2) ∧ Aside0 (Kd.R Kd.string 9 wc w.heap.size (fun k_ => some k_ ≠ ((.slice b9 e0.length b7) : Value).ownBlock ∧ some k_ ≠ ((.slice b4 c3.length b3) : Value).ownBlock) (.slice b8 a6.length b5) a6) ∧ Aside0 (Kd.R k94 94 wc w.heap.size (fun k_ => some k_ ≠ ((.slice d1 d5.length d0) : Value).ownBlock) (.slice d6 b1.length d3) b1) ∧ Aside0 (Kd.R Kd.string 9 wc w.heap.size (fun k_ => some k_ ≠ ((.slice b8 a6.length b5) : Value).ownBlock ∧ some k_ ≠ ((.slice b4 c3.length b3) : Value).ownBlock) (.slice b9 e0.length b7) e0) ∧ Aside0 (Kd.R Kd.string 9 wc w.heap.size (fun k_ => some k_ ≠ ((.slice b8 a6.length b5) : Value).ownBlock ∧ some k_ ≠ ((.slice b9 e0.length b7) : Value).ownBlock) (.slice b4 c3.length b3) c3) ∧ Aside0 (Kd.R k94 94 wc w.heap.size (fun k_ => some k_ ≠ ((.slice d6 b1.length d3) : Value).ownBlock) (.slice d1 d5.length d0) d5) ∧ Aside0 (wc.heap[e6]? = some (.cells #[.int .i64 e1, .int .i64 e2, .int .i64 e3, (.slice g7 d9.length g8)] 38 (0, 0))) ∧ Aside0 (wc.heap[b6]? = some (.cells #[.string e7, .int .i64 f0, .int .i64 f4, .int .i64 f7, (.slice b8 a6.length b5), (.slice d6 b1.length d3)] 44 (0, 0))) ∧ Aside0 (wc.heap[h1]? = some (.cells #[.int .i64 h5, .int .i64 h6, .int .i64 h7, (.slice b9 e0.length b7)] 41 (0, 0))) ∧ Aside0 (wc.heap[d8]? = some (.cells #[.string e8, .int .i64 f1, .int .i64 f5, .int .i64 f8, (.slice b4 c3.length b3), (.slice d1 d5.length d0)] 44 (0, 0))) ∧ Aside0 (Below w.heap.size w wc))
       case first =>
        have H := N5.out; clear N5; replace H := Option.bind_eq_some_iff.mp H; obtain ⟨a4y, U1, H⟩ := H
        try dsimp only at H
        have U2 := zA U1; clear U1; replace H := zB0 H
        rcases H with ⟨rfl, H⟩ | ⟨rfl, H⟩
        ·have H' := zA H; clear H; have a4z := C4.out; have a50 := C3.out; have a51 := p0.out; have a52 := o9.out; have a53 := r9.out; have a54 := r8.out; obtain ⟨v2, v3, v4, v5, v6, v7, v8, v9, x0, x1, x2, x3⟩ := ze6 a3.out; have a55 := i3.out; have a56 := g0.out; have a57 := q7.out; have a58 := q8.out; obtain ⟨x4, x5, x6, x7, x8, x9, y0, y1, y2, y3, y4, y5⟩ := ze6 a2.out
         go_wp2_with (first | ((with_reducible refine zq 20 ?_); refine zg (some 54) Try.func20 #[.agg #[.string e8, .int .i64 f1, .int .i64 f5, .int .i64 f8, .slice b4 c3.length b3, .slice d1 d5.length d0], .agg #[.string e7, .int .i64 f0, .int .i64 f4, .int .i64 f7, .slice b8 a6.length b5, .slice d6 b1.length d3]] ?_; (with_reducible refine (laws_eqEntry.calls l8 e8 f1 f5 f8 _ _ c3 _ _ d5 e7 f0 f4 f7 _ _ a6 _ _ b1 true _ ?s1 ?s2 ?s3 ?s4 ?s5 ?s6 ?s7 ?s8 U2.out).mono ?_); (case s1 => refine (Kd.R_reads' (e := 9) (base := w.heap.size) (ok := fun k_ => (((True ∧ some k_ ≠ (m7 : Value).ownBlock) ∧ some k_ ≠ (.slice b8 a6.length b5 : Value).ownBlock) ∧ some k_ ≠ (.slice b9 e0.length b7 : Value).ownBlock)) (n := c3.length) (c := b3) ?_).2.2; exact (zR (zr6 m1.out a3.out))); (case s2 => exact (Kd.R_reads' m1.out).2.1); (case s3 => refine (Kd.R_reads' (e := 94) (base := w.heap.size) (ok := fun k_ => (True ∧ some k_ ≠ (.slice d6 b1.length d3 : Value).ownBlock)) (n := d5.length) (c := d0) ?_).2.2; exact (zR (zr6 m2.out a3.out))); (case s4 => exact (Kd.R_reads' m2.out).2.1); (case s5 => refine (Kd.R_reads' (e := 9) (base := w.heap.size) (ok := fun k_ => ((some k_ ≠ (m7 : Value).ownBlock ∧ some k_ ≠ (.slice b9 e0.length b7 : Value).ownBlock) ∧ some k_ ≠ (.slice b4 c3.length b3 : Value).ownBlock)) (n := a6.length) (c := b5) ?_).2.2; exact (zR (zr6 g9.out a3.out))); (case s6 => exact (Kd.R_reads' g9.out).2.1); (case s7 => refine (Kd.R_reads' (e := 94) (base := w.heap.size) (ok := fun k_ => (True ∧ some k_ ≠ (.slice d1 d5.length d0 : Value).ownBlock)) (n := b1.length) (c := d3) ?_).2.2; exact (zR (zr6 h0.out a3.out))); (case s8 => exact (Kd.R_reads' h0.out).2.1); rintro e w66 ⟨rfl, hb⟩; refine ⟨_, rfl, ?_⟩; replace e9 := zA (Kd.S_below (by (with_reducible repeat (first | apply Kd.S_alloc | apply Kd.S_drewN | apply Kd.S_drew)); exact (Kd.S_mono (Kd.S_far (p := ⟨d8, 5, none⟩) (Kd.S_far (p := ⟨d8, 4, none⟩) (Kd.S_far (p := ⟨d8, 3, none⟩) (Kd.S_far (p := ⟨d8, 2, none⟩) (Kd.S_far (p := ⟨d8, 1, none⟩) (Kd.S_far (p := ⟨d8, 0, none⟩) (Kd.S_mono e9.out (fun k_ hk => (⟨hk, hk.2⟩ : _ ∧ k_ ≠ d8))) (fun _ hk => hk.2) (.string e8)) (fun _ hk => hk.2) (.int .i64 f1)) (fun _ hk => hk.2) (.int .i64 f5)) (fun _ hk => hk.2) (.int .i64 f8)) (fun _ hk => hk.2) (.slice b4 c3.length b3)) (fun _ hk => hk.2) (.slice d1 d5.length d0)) (fun _ h_ => h_.1))) hb); replace f2 := zA (Kd.R_below (zR (zr6 f2.out a3.out)) hb); replace g9 := zA (Kd.R_below (zR (zr6 g9.out a3.out)) hb); replace h0 := zA (Kd.R_below (zR (zr6 h0.out a3.out)) hb); replace k2 := zA (Kd.S_below (by (with_reducible repeat (first | apply Kd.S_alloc | apply Kd.S_drewN | apply Kd.S_drew)); exact (Kd.S_mono (Kd.S_far (p := ⟨d8, 5, none⟩) (Kd.S_far (p := ⟨d8, 4, none⟩) (Kd.S_far (p := ⟨d8, 3, none⟩) (Kd.S_far (p := ⟨d8, 2, none⟩) (Kd.S_far (p := ⟨d8, 1, none⟩) (Kd.S_far (p := ⟨d8, 0, none⟩) (Kd.S_mono k2.out (fun k_ hk => (⟨hk, hk.2⟩ : _ ∧ k_ ≠ d8))) (fun _ hk => hk.2) (.string e8)) (fun _ hk => hk.2) (.int .i64 f1)) (fun _ hk => hk.2) (.int .i64 f5)) (fun _ hk => hk.2) (.int .i64 f8)) (fun _ hk => hk.2) (.slice b4 c3.length b3)) (fun _ hk => hk.2) (.slice d1 d5.length d0)) (fun _ h_ => h_.1))) hb); replace k8 := zA (Kd.R_below (zR (zr6 k8.out a3.out)) hb); replace m1 := zA (Kd.R_below (zR (zr6 m1.out a3.out)) hb); replace m2 := zA (Kd.R_below (zR (zr6 m2.out a3.out)) hb); replace a0 := zb a0 hb; replace a2 := zb a2 hb; replace a5 := zb a5 hb; replace a3 := zA (blk_below (g := d8) (o := .cells #[.string e8, .int .i64 f1, .int .i64 f5, .int .i64 f8, .slice b4 c3.length b3, .slice d1 d5.length d0] 44 (0, 0)) (by (with_reducible repeat (first | refine blk_drewN ?_ _ | refine blk_drew ?_ | refine blk_alloc ?_ _)); refine blk_put (cs := #[.string e8, .int .i64 f1, .int .i64 f5, .int .i64 f8, .slice b4 c3.length b3, .slice none 0 0]) ?_ 5 _ rfl; (with_reducible repeat (first | refine blk_drewN ?_ _ | refine blk_drew ?_ | refine blk_alloc ?_ _)); refine blk_put (cs := #[.string e8, .int .i64 f1, .int .i64 f5, .int .i64 f8, .slice none 0 0, .slice none 0 0]) ?_ 4 _ rfl; (with_reducible repeat (first | refine blk_drewN ?_ _ | refine blk_drew ?_ | refine blk_alloc ?_ _)); refine blk_put (cs := #[.string e8, .int .i64 f1, .int .i64 f5, .int .i64 0, .slice none 0 0, .slice none 0 0]) ?_ 3 _ rfl; (with_reducible repeat (first | refine blk_drewN ?_ _ | refine blk_drew ?_ | refine blk_alloc ?_ _)); refine blk_put (cs := #[.string e8, .int .i64 f1, .int .i64 0, .int .i64 0, .slice none 0 0, .slice none 0 0]) ?_ 2 _ rfl; (with_reducible repeat (first | refine blk_drewN ?_ _ | refine blk_drew ?_ | refine blk_alloc ?_ _)); refine blk_put (cs := #[.string e8, .int .i64 0, .int .i64 0, .int .i64 0, .slice none 0 0, .slice none 0 0]) ?_ 1 _ rfl; (with_reducible repeat (first | refine blk_drewN ?_ _ | refine blk_drew ?_ | refine blk_alloc ?_ _)); refine blk_put (cs := #[.string (⟨#[]⟩ : ByteArray), .int .i64 0, .int .i64 0, .int .i64 0, .slice none 0 0, .slice none 0 0]) ?_ 0 _ rfl; (with_reducible repeat (first | refine blk_drewN ?_ _ | refine blk_drew ?_ | refine blk_alloc ?_ _)); exact a3.out) hb); replace HB := zh HB hb; (try clear hb)))
         go_meet
         case rel => exact ⟨_, ((C2 != i9)), zS, (by first | exact H' | (subst_vars; exact H')), ⟨by have := k6.out; have := l7.out; have := l9.out; first | omega | exact Nat.le_refl _⟩, ⟨by (with_reducible repeat (first | apply Kd.S_alloc | apply Kd.S_drewN | apply Kd.S_drew)); exact Kd.S_mono k2.out (fun _ hk => ⟨hk.1.1.1.1.1.1.2, ⟨hk.1.1.1.1.1.2, ⟨hk.1.1.1.2, ⟨hk.1.1.2, ⟨hk.1.2, ⟨hk.1.1.1.1.2, hk.2⟩⟩⟩⟩⟩⟩)⟩, ⟨zR (Kd.R_mono g9.out (fun _ hk => ⟨hk.1.2, hk.2⟩))⟩, ⟨zR (Kd.R_mono h0.out (fun _ hk => hk.2))⟩, ⟨zR (Kd.R_mono k8.out (fun _ hk => ⟨hk.1.2, hk.2⟩))⟩, ⟨zR (Kd.R_mono m1.out (fun _ hk => ⟨hk.1.2, hk.2⟩))⟩, ⟨zR (Kd.R_mono m2.out (fun _ hk => hk.2))⟩, ⟨zK a0.out⟩, ⟨zK a2.out⟩, ⟨zK a5.out⟩, ⟨zK a3.out⟩, ⟨zW HB.out⟩⟩
        have H' := zA H; clear H; have a5a := C4.out; have a5b := C3.out; have a5c := p0.out; have a5d := o9.out; have a5e := r9.out; have a5f := r8.out; obtain ⟨y6, y7, y8, y9, z0, z1, z2, z3, z4, z5, z6, z7⟩ := ze6 a3.out; have a5g := i3.out; have a5h := g0.out; have a5i := q7.out; have a5j := q8.out; obtain ⟨z8, z9, A1, A2, A3, A4, A5, A6, A8, A9, B0, B1⟩ := ze6 a2.out
        go_wp2_with (first | ((with_reducible refine zq 20 ?_); refine zg (some 54) Try.func20 #[.agg #[.string e8, .int .i64 f1, .int .i64 f5, .int .i64 f8, .slice b4 c3.length b3, .slice d1 d5.length d0], .agg #[.string e7, .int .i64 f0, .int .i64 f4, .int .i64 f7, .slice b8 a6.length b5, .slice d6 b1.length d3]] ?_; (with_reducible refine (laws_eqEntry.calls l8 e8 f1 f5 f8 _ _ c3 _ _ d5 e7 f0 f4 f7 _ _ a6 _ _ b1 false _ ?s1 ?s2 ?s3 ?s4 ?s5 ?s6 ?s7 ?s8 U2.out).mono ?_); (case s1 => refine (Kd.R_reads' (e := 9) (base := w.heap.size) (ok := fun k_ => (((True ∧ some k_ ≠ (m7 : Value).ownBlock) ∧ some k_ ≠ (.slice b8 a6.length b5 : Value).ownBlock) ∧ some k_ ≠ (.slice b9 e0.length b7 : Value).ownBlock)) (n := c3.length) (c := b3) ?_).2.2; exact (zR (zr6 m1.out a3.out))); (case s2 => exact (Kd.R_reads' m1.out).2.1); (case s3 => refine (Kd.R_reads' (e := 94) (base := w.heap.size) (ok := fun k_ => (True ∧ some k_ ≠ (.slice d6 b1.length d3 : Value).ownBlock)) (n := d5.length) (c := d0) ?_).2.2; exact (zR (zr6 m2.out a3.out))); (case s4 => exact (Kd.R_reads' m2.out).2.1); (case s5 => refine (Kd.R_reads' (e := 9) (base := w.heap.size) (ok := fun k_ => ((some k_ ≠ (m7 : Value).ownBlock ∧ some k_ ≠ (.slice b9 e0.length b7 : Value).ownBlock) ∧ some k_ ≠ (.slice b4 c3.length b3 : Value).ownBlock)) (n := a6.length) (c := b5) ?_).2.2; exact (zR (zr6 g9.out a3.out))); (case s6 => exact (Kd.R_reads' g9.out).2.1); (case s7 => refine (Kd.R_reads' (e := 94) (base := w.heap.size) (ok := fun k_ => (True ∧ some k_ ≠ (.slice d1 d5.length d0 : Value).ownBlock)) (n := b1.length) (c := d3) ?_).2.2; exact (zR (zr6 h0.out a3.out))); (case s8 => exact (Kd.R_reads' h0.out).2.1); rintro e w74 ⟨rfl, hb⟩; refine ⟨_, rfl, ?_⟩; replace e9 := zA (Kd.S_below (by (with_reducible repeat (first | apply Kd.S_alloc | apply Kd.S_drewN | apply Kd.S_drew)); exact (Kd.S_mono (Kd.S_far (p := ⟨d8, 5, none⟩) (Kd.S_far (p := ⟨d8, 4, none⟩) (Kd.S_far (p := ⟨d8, 3, none⟩) (Kd.S_far (p := ⟨d8, 2, none⟩) (Kd.S_far (p := ⟨d8, 1, none⟩) (Kd.S_far (p := ⟨d8, 0, none⟩) (Kd.S_mono e9.out (fun k_ hk => (⟨hk, hk.2⟩ : _ ∧ k_ ≠ d8))) (fun _ hk => hk.2) (.string e8)) (fun _ hk => hk.2) (.int .i64 f1)) (fun _ hk => hk.2) (.int .i64 f5)) (fun _ hk => hk.2) (.int .i64 f8)) (fun _ hk => hk.2) (.slice b4 c3.length b3)) (fun _ hk => hk.2) (.slice d1 d5.length d0)) (fun _ h_ => h_.1))) hb); replace f2 := zA (Kd.R_below (zR (zr6 f2.out a3.out)) hb); replace g9 := zA (Kd.R_below (zR (zr6 g9.out a3.out)) hb); replace h0 := zA (Kd.R_below (zR (zr6 h0.out a3.out)) hb); replace k2 := zA (Kd.S_below (by (with_reducible repeat (first | apply Kd.S_alloc | apply Kd.S_drewN | apply Kd.S_drew)); exact (Kd.S_mono (Kd.S_far (p := ⟨d8, 5, none⟩) (Kd.S_far (p := ⟨d8, 4, none⟩) (Kd.S_far (p := ⟨d8, 3, none⟩) (Kd.S_far (p := ⟨d8, 2, none⟩) (Kd.S_far (p := ⟨d8, 1, none⟩) (Kd.S_far (p := ⟨d8, 0, none⟩) (Kd.S_mono k2.out (fun k_ hk => (⟨hk, hk.2⟩ : _ ∧ k_ ≠ d8))) (fun _ hk => hk.2) (.string e8)) (fun _ hk => hk.2) (.int .i64 f1)) (fun _ hk => hk.2) (.int .i64 f5)) (fun _ hk => hk.2) (.int .i64 f8)) (fun _ hk => hk.2) (.slice b4 c3.length b3)) (fun _ hk => hk.2) (.slice d1 d5.length d0)) (fun _ h_ => h_.1))) hb); replace k8 := zA (Kd.R_below (zR (zr6 k8.out a3.out)) hb); replace m1 := zA (Kd.R_below (zR (zr6 m1.out a3.out)) hb); replace m2 := zA (Kd.R_below (zR (zr6 m2.out a3.out)) hb); replace a0 := zb a0 hb; replace a2 := zb a2 hb; replace a5 := zb a5 hb; replace a3 := zA (blk_below (g := d8) (o := .cells #[.string e8, .int .i64 f1, .int .i64 f5, .int .i64 f8, .slice b4 c3.length b3, .slice d1 d5.length d0] 44 (0, 0)) (by (with_reducible repeat (first | refine blk_drewN ?_ _ | refine blk_drew ?_ | refine blk_alloc ?_ _)); refine blk_put (cs := #[.string e8, .int .i64 f1, .int .i64 f5, .int .i64 f8, .slice b4 c3.length b3, .slice none 0 0]) ?_ 5 _ rfl; (with_reducible repeat (first | refine blk_drewN ?_ _ | refine blk_drew ?_ | refine blk_alloc ?_ _)); refine blk_put (cs := #[.string e8, .int .i64 f1, .int .i64 f5, .int .i64 f8, .slice none 0 0, .slice none 0 0]) ?_ 4 _ rfl; (with_reducible repeat (first | refine blk_drewN ?_ _ | refine blk_drew ?_ | refine blk_alloc ?_ _)); refine blk_put (cs := #[.string e8, .int .i64 f1, .int .i64 f5, .int .i64 0, .slice none 0 0, .slice none 0 0]) ?_ 3 _ rfl; (with_reducible repeat (first | refine blk_drewN ?_ _ | refine blk_drew ?_ | refine blk_alloc ?_ _)); refine blk_put (cs := #[.string e8, .int .i64 f1, .int .i64 0, .int .i64 0, .slice none 0 0, .slice none 0 0]) ?_ 2 _ rfl; (with_reducible repeat (first | refine blk_drewN ?_ _ | refine blk_drew ?_ | refine blk_alloc ?_ _)); refine blk_put (cs := #[.string e8, .int .i64 0, .int .i64 0, .int .i64 0, .slice none 0 0, .slice none 0 0]) ?_ 1 _ rfl; (with_reducible repeat (first | refine blk_drewN ?_ _ | refine blk_drew ?_ | refine blk_alloc ?_ _)); refine blk_put (cs := #[.string (⟨#[]⟩ : ByteArray), .int .i64 0, .int .i64 0, .int .i64 0, .slice none 0 0, .slice none 0 0]) ?_ 0 _ rfl; (with_reducible repeat (first | refine blk_drewN ?_ _ | refine blk_drew ?_ | refine blk_alloc ?_ _)); exact a3.out) hb); replace HB := zh HB hb; (try clear hb)))
        go_meet
        case rel => exact ⟨_, (true), zS, (by first | exact H' | (subst_vars; exact H')), ⟨by have := k6.out; have := l7.out; have := l9.out; first | omega | exact Nat.le_refl _⟩, ⟨by (with_reducible repeat (first | apply Kd.S_alloc | apply Kd.S_drewN | apply Kd.S_drew)); exact Kd.S_mono k2.out (fun _ hk => ⟨hk.1.1.1.1.1.1.2, ⟨hk.1.1.1.1.1.2, ⟨hk.1.1.1.2, ⟨hk.1.1.2, ⟨hk.1.2, ⟨hk.1.1.1.1.2, hk.2⟩⟩⟩⟩⟩⟩)⟩, ⟨zR (Kd.R_mono g9.out (fun _ hk => ⟨hk.1.2, hk.2⟩))⟩, ⟨zR (Kd.R_mono h0.out (fun _ hk => hk.2))⟩, ⟨zR (Kd.R_mono k8.out (fun _ hk => ⟨hk.1.2, hk.2⟩))⟩, ⟨zR (Kd.R_mono m1.out (fun _ hk => ⟨hk.1.2, hk.2⟩))⟩, ⟨zR (Kd.R_mono m2.out (fun _ hk => hk.2))⟩, ⟨zK a0.out⟩, ⟨zK a2.out⟩, ⟨zK a5.out⟩, ⟨zK a3.out⟩, ⟨zW HB.out⟩⟩
       case rest =>
        clear N5
        try clear c1
        try clear c2
        try clear p2
        try clear c4
        try clear c5
        try clear c6
        try clear c7
        try clear c16
        try clear c17
        try clear c18
        try clear c19
        try clear c20
        try clear c40
        try clear c44
        try clear c45
        try clear c51
        try clear c52
        try clear c53
        try clear c58
        try clear c59
        try clear c60
        try clear c61
        try clear c63
        try clear c64
        try clear c67
        try clear c68
        try clear c69
        try clear c71
        try clear c72
        try clear p9 q0 q1 q2 q3 q4 q5 q6
        try clear q9 r0 r1 r2 r3 r4 r5 r6
        try clear t0 t1 t2 t3 t4 t5 t6 t7 t8 t9 v0 v1
        try clear v2 v3 v4 v5 v6 v7 v8 v9 x0 x1 x2 x3
        try clear x4 x5 x6 x7 x8 x9 y0 y1 y2 y3 y4 y5
        try clear y6 y7 y8 y9 z0 z1 z2 z3 z4 z5 z6 z7
        try clear z8 z9 A1 A2 A3 A4 A5 A6 A8 A9 B0 B1
        obtain ⟨kq, N9, rfl, HA, m8, h3, b0, b2, a9, a7, a8, a0, a2, a5, a3, HB⟩ := hcut
        cases kq with
        | zero => exact absurd HA.out (by simp [laws_FnExactEntryOf.j3])
        | succ a2h =>
         have H := HA.out; clear HA; simp only [laws_FnExactEntryOf.j3] at H; have O0 := zA H; clear H
         go_upto_if 60 with (fail)
         go_cut [] (fun wc => ∃ (kq : Nat), Aside0 (laws_FnExactEntryOf.j4 kq l0 a1 i9 i2 C2 e1 e2 e3 d9 e7 f0 f4 f7 a6 b1 h5 h6 h7 e0 e8 f1 f5 f8 c3 d5 = some r) ∧ Aside0 (kq ≤ a2h) ∧ Aside0 (Kd.S k44 44 wc w.heap.size (fun k_ => some k_ ≠ ((.slice b8 a6.length b5) : Value).ownBlock ∧ some k_ ≠ ((.slice d6 b1.length d3) : Value).ownBlock ∧ some k_ ≠ ((.slice b9 e0.length b7) : Value).ownBlock ∧ some k_ ≠ ((.slice b4 c3.length b3) : Value).ownBlock ∧ some k_ ≠ ((.slice d1 d5.length d0) : Value).ownBlock ∧ k_ ≠ b6 ∧ k_ ≠ d8) (.slice r7 i2.length o8) i2) ∧ Aside0 (Kd.R Kd.string 9 wc w.heap.size (fun k_ => some k_ ≠ ((.slice b9 e0.length b7) : Value).ownBlock ∧ some k_ ≠ ((.slice b4 c3.length b3) : Value).ownBlock) (.slice b8 a6.length b5) a6) ∧ Aside0 (Kd.R k94 94 wc w.heap.size (fun k_ => some k_ ≠ ((.slice d1 d5.length d0) : Value).ownBlock) (.slice d6 b1.length d3) b1) ∧ Aside0 (Kd.R Kd.string 9 wc w.heap.size (fun k_ => some k_ ≠ ((.slice b8 a6.length b5) : Value).ownBlock ∧ some k_ ≠ ((.slice b4 c3.length b3) : Value).ownBlock) (.slice b9 e0.length b7) e0) ∧ Aside0 (Kd.R Kd.string 9 wc w.heap.size (fun k_ => some k_ ≠ ((.slice b8 a6.length b5) : Value).ownBlock ∧ some k_ ≠ ((.slice b9 e0.length b7) : Value).ownBlock) (.slice b4 c3.length b3) c3) ∧ Aside0 (Kd.R k94 94 wc w.heap.size (fun k_ => some k_ ≠ ((.slice d6 b1.length d3) : Value).ownBlock) (.slice d1 d5.length d0) d5) ∧ Aside0 (wc.heap[e6]? = some (.cells #[.int .i64 e1, .int .i64 e2, .int .i64 e3, (.slice g7 d9.length g8)] 38 (0, 0))) ∧ Aside0 (wc.heap[b6]? = some (.cells #[.string e7, .int .i64 f0, .int .i64 f4, .int .i64 f7, (.slice b8 a6.length b5), (.slice d6 b1.length d3)] 44 (0, 0))) ∧ Aside0 (wc.heap[h1]? = some (.cells #[.int .i64 h5, .int .i64 h6, .int .i64 h7, (.slice b9 e0.length b7)] 41 (0, 0))) ∧ Aside0 (wc.heap[d8]? = some (.cells #[.string e8, .int .i64 f1, .int .i64 f5, .int .i64 f8, (.slice b4 c3.length b3), (.slice d1 d5.length d0)] 44 (0, 0))) ∧ Aside0 (Below w.heap.size w wc))
         case first =>
          have H := O0.out; clear O0; replace H := zB0 H
          rcases H with ⟨rfl, H⟩ | ⟨rfl, H⟩
          ·exact absurd H (by simp)
          have H' := zA H; clear H
          go_wp2
          go_meet
          case rel => exact ⟨_, (by first | exact H' | (subst_vars; exact H')), ⟨by have := k6.out; have := l7.out; have := l9.out; have := m8.out; first | omega | exact Nat.le_refl _⟩, ⟨by (with_reducible repeat (first | apply Kd.S_alloc | apply Kd.S_drewN | apply Kd.S_drew)); exact h3.out⟩, ⟨zR b0.out⟩, ⟨zR b2.out⟩, ⟨zR a9.out⟩, ⟨zR a7.out⟩, ⟨zR a8.out⟩, ⟨zK a0.out⟩, ⟨zK a2.out⟩, ⟨zK a5.out⟩, ⟨zK a3.out⟩, ⟨zW HB.out⟩⟩
         case rest =>
          clear O0
          try clear c1
          try clear c2
          try clear p2
          try clear c4
          try clear c5
          try clear c6
          try clear c7
          try clear c16
          try clear c17
          try clear c18
          try clear c19
          try clear c20
          try clear c40
          try clear c44
          try clear c45
          try clear c51
          try clear c52
          try clear c53
          try clear c58
          try clear c59
          try clear c60
          try clear c61
          try clear c63
          try clear c64
          try clear c67
          try clear c68
          try clear c69
          try clear c71
          try clear c72
          try clear c76
          try clear p9 q0 q1 q2 q3 q4 q5 q6
          try clear q9 r0 r1 r2 r3 r4 r5 r6
          try clear t0 t1 t2 t3 t4 t5 t6 t7 t8 t9 v0 v1
          try clear v2 v3 v4 v5 v6 v7 v8 v9 x0 x1 x2 x3
          try clear x4 x5 x6 x7 x8 x9 y0 y1 y2 y3 y4 y5
          try clear y6 y7 y8 y9 z0 z1 z2 z3 z4 z5 z6 z7
          try clear z8 z9 A1 A2 A3 A4 A5 A6 A8 A9 B0 B1
          try clear p2
          obtain ⟨kq, HA, o0, h3, b0, b2, a9, a7, a8, a0, a2, a5, a3, HB⟩ := hcut
          cases kq with
          | zero => exact absurd HA.out (by simp [laws_FnExactEntryOf.j4])
          | succ O1 =>
           have H := HA.out; clear HA; simp only [laws_FnExactEntryOf.j4] at H; replace H := Option.bind_eq_some_iff.mp H; obtain ⟨O2, U3, H⟩ := H
           try dsimp only at H
           have A77 := zA U3; clear U3; replace H := Option.bind_eq_some_iff.mp H; obtain ⟨a2j, U4, H⟩ := H
           try dsimp only at H
           have A78 := zA U4; clear U4; have O3 := zA H; clear H
           go_upto_if 65 with (first | ((with_reducible refine zq 17 ?_); refine zg (some 63) Try.func17 #[.slice A0 l0.length c0] ?_; (with_reducible refine (laws_toEntryS.calls O1 _ _ l0 O2 _ ?s1 ?s2 A77.out).mono ?_); (case s1 => exact zC (Kd.C_below B9.out HB.out)); (case s2 => exact C0.out); rintro e w80 ⟨a5m, rfl, a4, hb⟩; refine ⟨_, rfl, ?_⟩; have D8 := zA (Kd.S_lower (Kd.S_newB (Kd.S_newB (Kd.S_new' (Kd.S_new' (Kd.S_new' (Kd.S_new' (Kd.S_new' (Kd.S_new' a4 (Kd.S_lt (by (with_reducible repeat (first | apply Kd.S_alloc | apply Kd.S_drewN | apply Kd.S_drew)); exact h3.out))) (Kd.R_lt (zR b0.out))) (Kd.R_lt (zR b2.out))) (Kd.R_lt (zR a9.out))) (Kd.R_lt (zR a7.out))) (Kd.R_lt (zR a8.out))) (g := b6) (o := .cells #[.string e7, .int .i64 f0, .int .i64 f4, .int .i64 f7, .slice b8 a6.length b5, .slice d6 b1.length d3] 44 (0, 0)) (zK a2.out)) (g := d8) (o := .cells #[.string e8, .int .i64 f1, .int .i64 f5, .int .i64 f8, .slice b4 c3.length b3, .slice d1 d5.length d0] 44 (0, 0)) (zK a3.out)) (below_size (zW HB.out))); replace h3 := zA (Kd.S_elder' (by (with_reducible repeat (first | apply Kd.S_alloc | apply Kd.S_drewN | apply Kd.S_drew)); exact h3.out) (Kd.S_base a4) hb); replace b0 := zr b0 hb; replace b2 := zr b2 hb; replace a9 := zr a9 hb; replace a7 := zr a7 hb; replace a8 := zr a8 hb; replace a0 := zb a0 hb; replace a2 := zb a2 hb; replace a5 := zb a5 hb; replace a3 := zb a3 hb; replace HB := zh HB hb; (try clear hb a4); obtain ⟨a2l, a2m, a2n⟩ := Kd.S_slice D8.out; subst a2n) | ((with_reducible refine zq 21 ?_); refine zg (some 64) Try.func21 #[.slice r7 i2.length o8, .slice a2l O2.length a2m] ?_; (with_reducible refine (laws_eqEntryS.calls O1 _ _ i2 _ _ O2 a2j _ ?s1 ?s2 ?s3 ?s4 A78.out).mono ?_); (case s1 => repeat (first | exact (Kd.S_reads' h3.out).2.2 | (with_reducible refine Kd.C_alloc ?_ _) | (with_reducible refine Kd.C_drewN ?_ _) | (with_reducible refine Kd.C_drew ?_))); (case s2 => exact (Kd.S_reads' h3.out).2.1); (case s3 => repeat (first | exact (Kd.S_reads' D8.out).2.2 | (with_reducible refine Kd.C_alloc ?_ _) | (with_reducible refine Kd.C_drewN ?_ _) | (with_reducible refine Kd.C_drew ?_))); (case s4 => exact (Kd.S_reads' D8.out).2.1); rintro e w82 ⟨rfl, hb⟩; refine ⟨_, rfl, ?_⟩; replace h3 := zA (Kd.S_below (by (with_reducible repeat (first | apply Kd.S_alloc | apply Kd.S_drewN | apply Kd.S_drew)); exact h3.out) hb); replace b0 := zr b0 hb; replace b2 := zr b2 hb; replace a9 := zr a9 hb; replace a7 := zr a7 hb; replace a8 := zr a8 hb; replace D8 := zA (Kd.S_below (by (with_reducible repeat (first | apply Kd.S_alloc | apply Kd.S_drewN | apply Kd.S_drew)); exact D8.out) hb); replace a0 := zb a0 hb; replace a2 := zb a2 hb; replace a5 := zb a5 hb; replace a3 := zb a3 hb; replace HB := zh HB hb; (try clear hb)))
           (try simp only [Act.put, zT])
           go_cut [] (fun wc => ∃ (kq : Nat), Aside0 (laws_FnExactEntryOf.j5 kq l0 a1 i9 i2 C2 e1 e2 e3 d9 e7 f0 f4 f7 a6 b1 h5 h6 h7 e0 e8 f1 f5 f8 c3 d5 = some r) ∧ Aside0 (kq ≤ O1) ∧ Aside0 (Kd.S k44 44 wc w.heap.size (fun k_ => some k_ ≠ ((.slice b8 a6.length b5) : Value).ownBlock ∧ some k_ ≠ ((.slice d6 b1.length d3) : Value).ownBlock ∧ some k_ ≠ ((.slice b9 e0.length b7) : Value).ownBlock ∧ some k_ ≠ ((.slice b4 c3.length b3) : Value).ownBlock ∧ some k_ ≠ ((.slice d1 d5.length d0) : Value).ownBlock ∧ k_ ≠ b6 ∧ k_ ≠ d8) (.slice r7 i2.length o8) i2) ∧ Aside0 (Kd.R Kd.string 9 wc w.heap.size (fun k_ => some k_ ≠ ((.slice b9 e0.length b7) : Value).ownBlock ∧ some k_ ≠ ((.slice b4 c3.length b3) : Value).ownBlock) (.slice b8 a6.length b5) a6) ∧ Aside0 (Kd.R k94 94 wc w.heap.size (fun k_ => some k_ ≠ ((.slice d1 d5.length d0) : Value).ownBlock) (.slice d6 b1.length d3) b1) ∧ Aside0 (Kd.R Kd.string 9 wc w.heap.size (fun k_ => some k_ ≠ ((.slice b8 a6.length b5) : Value).ownBlock ∧ some k_ ≠ ((.slice b4 c3.length b3) : Value).ownBlock) (.slice b9 e0.length b7) e0) ∧ Aside0 (Kd.R Kd.string 9 wc w.heap.size (fun k_ => some k_ ≠ ((.slice b8 a6.length b5) : Value).ownBlock ∧ some k_ ≠ ((.slice b9 e0.length b7) : Value).ownBlock) (.slice b4 c3.length b3) c3) ∧ Aside0 (Kd.R k94 94 wc w.heap.size (fun k_ => some k_ ≠ ((.slice d6 b1.length d3) : Value).ownBlock) (.slice d1 d5.length d0) d5) ∧ Aside0 (wc.heap[e6]? = some (.cells #[.int .i64 e1, .int .i64 e2, .int .i64 e3, (.slice g7 d9.length g8)] 38 (0, 0))) ∧ Aside0 (wc.heap[b6]? = some (.cells #[.string e7, .int .i64 f0, .int .i64 f4, .int .i64 f7, (.slice b8 a6.length b5), (.slice d6 b1.length d3)] 44 (0, 0))) ∧ Aside0 (wc.heap[h1]? = some (.cells #[.int .i64 h5, .int .i64 h6, .int .i64 h7, (.slice b9 e0.length b7)] 41 (0, 0))) ∧ Aside0 (wc.heap[d8]? = some (.cells #[.string e8, .int .i64 f1, .int .i64 f5, .int .i64 f8, (.slice b4 c3.length b3), (.slice d1 d5.length d0)] 44 (0, 0))) ∧ Aside0 (Below w.heap.size w wc))
           case first =>
            have H := O3.out; clear O3; replace H := zB0 H
            rcases H with ⟨rfl, H⟩ | ⟨rfl, H⟩
            ·have H' := zA H; clear H
             go_wp2
             go_meet
             case rel => exact ⟨_, (by first | exact H' | (subst_vars; exact H')), ⟨by have := k6.out; have := l7.out; have := l9.out; have := m8.out; have := o0.out; first | omega | exact Nat.le_refl _⟩, ⟨by (with_reducible repeat (first | apply Kd.S_alloc | apply Kd.S_drewN | apply Kd.S_drew)); exact Kd.S_mono h3.out (fun _ hk => ⟨hk.1.1, ⟨hk.1.2.1, ⟨hk.1.2.2.1, ⟨hk.1.2.2.2.1, ⟨hk.1.2.2.2.2.1, ⟨hk.1.2.2.2.2.2.1, hk.1.2.2.2.2.2.2⟩⟩⟩⟩⟩⟩)⟩, ⟨zR b0.out⟩, ⟨zR b2.out⟩, ⟨zR a9.out⟩, ⟨zR a7.out⟩, ⟨zR a8.out⟩, ⟨zK a0.out⟩, ⟨zK a2.out⟩, ⟨zK a5.out⟩, ⟨zK a3.out⟩, ⟨zW HB.out⟩⟩
            exact absurd H (by simp)
           case rest =>
            clear O3
            try clear c1
            try clear c2
            try clear p2
            try clear c4
            try clear c5
            try clear c6
            try clear c7
            try clear c8
            try clear c16
            try clear c17
            try clear c18
            try clear c19
            try clear c20
            try clear c21
            try clear c40
            try clear c44
            try clear c45
            try clear c51
            try clear c52
            try clear c53
            try clear c58
            try clear c59
            try clear c60
            try clear c61
            try clear c63
            try clear c64
            try clear c67
            try clear c68
            try clear c69
            try clear c71
            try clear c72
            try clear c76
            try clear c83
            try clear p9 q0 q1 q2 q3 q4 q5 q6
            try clear q9 r0 r1 r2 r3 r4 r5 r6
            try clear t0 t1 t2 t3 t4 t5 t6 t7 t8 t9 v0 v1
            try clear v2 v3 v4 v5 v6 v7 v8 v9 x0 x1 x2 x3
            try clear x4 x5 x6 x7 x8 x9 y0 y1 y2 y3 y4 y5
            try clear y6 y7 y8 y9 z0 z1 z2 z3 z4 z5 z6 z7
            try clear z8 z9 A1 A2 A3 A4 A5 A6 A8 A9 B0 B1
            try clear p2
            obtain ⟨kq, HA, o5, h3, b0, b2, a9, a7, a8, a0, a2, a5, a3, HB⟩ := hcut
            cases kq with
            | zero => exact absurd HA.out (by simp [laws_FnExactEntryOf.j5])
            | succ O4 =>
             have H := HA.out; clear HA; simp only [laws_FnExactEntryOf.j5] at H; replace H := Option.bind_eq_some_iff.mp H; obtain ⟨⟨O5, O6, O7, O8⟩, U5, H⟩ := H
             try dsimp only at H
             have A84 := zA U5; clear U5; replace H := Option.bind_eq_some_iff.mp H; obtain ⟨a2p, U6, H⟩ := H
             try dsimp only at H
             have A85 := zA U6; clear U6; have O9 := zA H; clear H
             try go_wp2
             replace h3 := zA (Kd.S_drew h3.out); replace b0 := zA (Kd.R_drew b0.out); replace b2 := zA (Kd.R_drew b2.out); replace a9 := zA (Kd.R_drew a9.out); replace a7 := zA (Kd.R_drew a7.out); replace a8 := zA (Kd.R_drew a8.out); replace a0 := zA (blk_drew a0.out); replace a2 := zA (blk_drew a2.out); replace a5 := zA (blk_drew a5.out); replace a3 := zA (blk_drew a3.out); replace HB := zA (below_drew1 HB.out)
             refine start_ (n := 5) (S := fun w' => w'.cell? ⟨h1, 0, none⟩ = some (.int .i64 h5) ∧ w'.cell? ⟨h1, 1, none⟩ = some (.int .i64 h6) ∧ w'.cell? ⟨h1, 2, none⟩ = some (.int .i64 h7) ∧ w'.cell? ⟨h1, 3, none⟩ = some (.slice b9 e0.length b7) ∧ w'.cell? ⟨e6, 0, none⟩ = some (.int .i64 e1) ∧ w'.cell? ⟨e6, 1, none⟩ = some (.int .i64 e2) ∧ w'.cell? ⟨e6, 2, none⟩ = some (.int .i64 e3) ∧ w'.cell? ⟨e6, 3, none⟩ = some (.slice g7 d9.length g8)) (ds := []) (Array.replicate 5 false) (by kernel_rfl) rfl rfl zO fun hHeld => ?_
             generalize wc.drew = w87 at h3 b0 b2 a9 a7 a8 a0 a2 a5 a3 HB hHeld ⊢; refine zt 0 66 ?_; refine zt 1 67 ?_
             refine zo 2 (some 68) fun K hK => ?_
             refine goes_ Try.func18 (by kernel_rfl) rfl #[.agg #[.int .i64 e1, .int .i64 e2, .int .i64 e3, .slice g7 d9.length g8]] (by rfl) rfl rfl zM ?_
             with_reducible refine (laws_toVer.calls O4 e1 e2 e3 _ _ d9 O5 O6 O7 O8 _ ?s1 ?s2 A84.out).mono ?_
             (case s1 => exact zC (Kd.C_below o6.out HB.out))
             (case s2 => exact o7.out)
             rintro e w88 ⟨a5q, rfl, a4, hb⟩
             refine ⟨_, rfl, ?_⟩
             replace h3 := zA (Kd.S_elder' (by (with_reducible repeat (first | apply Kd.S_alloc | apply Kd.S_drewN | apply Kd.S_drew)); exact h3.out) (Kd.R_base a4) hb); replace b2 := zr b2 hb; replace a8 := zr a8 hb; have D9 := zA (Kd.R_lower (Kd.R_new' (Kd.R_new' (Kd.R_new' a4 (Kd.R_lt (zR b0.out))) (Kd.R_lt (zR a9.out))) (Kd.R_lt (zR a7.out))) (below_size (zW HB.out))); replace b0 := zA (Kd.R_elder' (zR b0.out) (Kd.R_base a4) hb); replace a9 := zA (Kd.R_elder' (zR a9.out) (Kd.R_base a4) hb); replace a7 := zA (Kd.R_elder' (zR a7.out) (Kd.R_base a4) hb); replace a0 := zb a0 hb; replace a2 := zb a2 hb; replace a5 := zb a5 hb; replace a3 := zb a3 hb; replace HB := zh HB hb
             (try clear hb a4)
             obtain ⟨a2r, a2s, U7⟩ := Kd.R_slice D9.out
             (first | subst U7 | (injection U7 with f1_ f2_ f3_; have g3 := f1_.symm; have g4 := f3_.symm; clear f1_ f2_ f3_; subst g3; subst g4))
             refine hK.out _ _ zO fun hHeld => ?_
             clear hK K; refine zn ?_
             refine zo 3 (some 69) fun K hK => ?_
             refine goes_ Try.func22 (by kernel_rfl) rfl #[.agg #[.int .i64 h5, .int .i64 h6, .int .i64 h7, .slice b9 e0.length b7], .agg #[.int .i64 O5, .int .i64 O6, .int .i64 O7, .slice a2r O8.length a2s]] (by rfl) rfl rfl zM ?_
             with_reducible refine (laws_eqVer.calls O4 h5 h6 h7 _ _ e0 O5 O6 O7 _ _ O8 a2p _ ?s1 ?s2 ?s3 ?s4 A85.out).mono ?_
             (case s1 => repeat (first | exact (Kd.R_reads' a9.out).2.2 | (with_reducible refine Kd.C_alloc ?_ _) | (with_reducible refine Kd.C_drewN ?_ _) | (with_reducible refine Kd.C_drew ?_)))
             (case s2 => exact (Kd.R_reads' a9.out).2.1)
             (case s3 => repeat (first | exact (Kd.R_reads' D9.out).2.2 | (with_reducible refine Kd.C_alloc ?_ _) | (with_reducible refine Kd.C_drewN ?_ _) | (with_reducible refine Kd.C_drew ?_)))
             (case s4 => exact (Kd.R_reads' D9.out).2.1)
             rintro e w90 ⟨rfl, hb⟩
             refine ⟨_, rfl, ?_⟩
             replace h3 := zA (Kd.S_below (by (with_reducible repeat (first | apply Kd.S_alloc | apply Kd.S_drewN | apply Kd.S_drew)); exact h3.out) hb); replace b0 := zr b0 hb; replace b2 := zr b2 hb; replace a9 := zr a9 hb; replace a7 := zr a7 hb; replace a8 := zr a8 hb; replace D9 := zr D9 hb; replace a0 := zb a0 hb; replace a2 := zb a2 hb; replace a5 := zb a5 hb; replace a3 := zb a3 hb; replace HB := zh HB hb
             (try clear hb)
             refine hK.out _ _ zO fun hHeld => ?_
             clear hK K; refine zn ?_; refine zp 4 70 ?_
             refine done_ (by kernel_rfl) ?_
             go_upto_if 70 with (fail)
             go_cut [] (fun wc => ∃ (kq : Nat), Aside0 (laws_FnExactEntryOf.j6 kq l0 a1 i9 i2 C2 e1 e2 e3 d9 e7 f0 f4 f7 a6 b1 h5 h6 h7 e0 e8 f1 f5 f8 c3 d5 = some r) ∧ Aside0 (kq ≤ O4) ∧ Aside0 (Kd.S k44 44 wc w.heap.size (fun k_ => some k_ ≠ ((.slice b8 a6.length b5) : Value).ownBlock ∧ some k_ ≠ ((.slice d6 b1.length d3) : Value).ownBlock ∧ some k_ ≠ ((.slice b9 e0.length b7) : Value).ownBlock ∧ some k_ ≠ ((.slice b4 c3.length b3) : Value).ownBlock ∧ some k_ ≠ ((.slice d1 d5.length d0) : Value).ownBlock ∧ k_ ≠ b6 ∧ k_ ≠ d8) (.slice r7 i2.length o8) i2) ∧ Aside0 (Kd.R Kd.string 9 wc w.heap.size (fun k_ => some k_ ≠ ((.slice b9 e0.length b7) : Value).ownBlock ∧ some k_ ≠ ((.slice b4 c3.length b3) : Value).ownBlock) (.slice b8 a6.length b5) a6) ∧ Aside0 (Kd.R k94 94 wc w.heap.size (fun k_ => some k_ ≠ ((.slice d1 d5.length d0) : Value).ownBlock) (.slice d6 b1.length d3) b1) ∧ Aside0 (Kd.R Kd.string 9 wc w.heap.size (fun k_ => some k_ ≠ ((.slice b8 a6.length b5) : Value).ownBlock ∧ some k_ ≠ ((.slice b4 c3.length b3) : Value).ownBlock) (.slice b9 e0.length b7) e0) ∧ Aside0 (Kd.R Kd.string 9 wc w.heap.size (fun k_ => some k_ ≠ ((.slice b8 a6.length b5) : Value).ownBlock ∧ some k_ ≠ ((.slice b9 e0.length b7) : Value).ownBlock) (.slice b4 c3.length b3) c3) ∧ Aside0 (Kd.R k94 94 wc w.heap.size (fun k_ => some k_ ≠ ((.slice d6 b1.length d3) : Value).ownBlock) (.slice d1 d5.length d0) d5) ∧ Aside0 (wc.heap[e6]? = some (.cells #[.int .i64 e1, .int .i64 e2, .int .i64 e3, (.slice g7 d9.length g8)] 38 (0, 0))) ∧ Aside0 (wc.heap[b6]? = some (.cells #[.string e7, .int .i64 f0, .int .i64 f4, .int .i64 f7, (.slice b8 a6.length b5), (.slice d6 b1.length d3)] 44 (0, 0))) ∧ Aside0 (wc.heap[h1]? = some (.cells #[.int .i64 h5, .int .i64 h6, .int .i64 h7, (.slice b9 e0.length b7)] 41 (0, 0))) ∧ Aside0 (wc.heap[d8]? = some (.cells #[.string e8, .int .i64 f1, .int .i64 f5, .int .i64 f8, (.slice b4 c3.length b3), (.slice d1 d5.length d0)] 44 (0, 0))) ∧ Aside0 (Below w.heap.size w wc))
             case first =>
              have H := O9.out; clear O9; replace H := zB0 H
              rcases H with ⟨rfl, H⟩ | ⟨rfl, H⟩
              ·have H' := zA H; clear H
               go_wp2
               go_meet
               case rel => exact ⟨_, (by first | exact H' | (subst_vars; exact H')), ⟨by have := k6.out; have := l7.out; have := l9.out; have := m8.out; have := o0.out; have := o5.out; first | omega | exact Nat.le_refl _⟩, ⟨by (with_reducible repeat (first | apply Kd.S_alloc | apply Kd.S_drewN | apply Kd.S_drew)); exact Kd.S_mono h3.out (fun _ hk => ⟨hk.1.1, ⟨hk.1.2.1, ⟨hk.1.2.2.1, ⟨hk.1.2.2.2.1, ⟨hk.1.2.2.2.2.1, ⟨hk.1.2.2.2.2.2.1, hk.1.2.2.2.2.2.2⟩⟩⟩⟩⟩⟩)⟩, ⟨zR (Kd.R_mono b0.out (fun _ hk => ⟨hk.1.1, hk.1.2⟩))⟩, ⟨zR b2.out⟩, ⟨zR (Kd.R_mono a9.out (fun _ hk => ⟨hk.1.1, hk.1.2⟩))⟩, ⟨zR (Kd.R_mono a7.out (fun _ hk => ⟨hk.1.1, hk.1.2⟩))⟩, ⟨zR a8.out⟩, ⟨zK a0.out⟩, ⟨zK a2.out⟩, ⟨zK a5.out⟩, ⟨zK a3.out⟩, ⟨zW HB.out⟩⟩
              exact absurd H (by simp)
             case rest =>
              clear O9
              try clear c1
              try clear c2
              try clear p2
              try clear c4
              try clear c5
              try clear c6
              try clear c7
              try clear c8
              try clear c9
              try clear c16
              try clear c17
              try clear c18
              try clear c19
              try clear c20
              try clear c21
              try clear c22
              try clear c40
              try clear c44
              try clear c45
              try clear c51
              try clear c52
              try clear c53
              try clear c58
              try clear c59
              try clear c60
              try clear c61
              try clear c63
              try clear c64
              try clear c67
              try clear c68
              try clear c69
              try clear c71
              try clear c72
              try clear c76
              try clear c83
              try clear c91
              try clear p9 q0 q1 q2 q3 q4 q5 q6
              try clear q9 r0 r1 r2 r3 r4 r5 r6
              try clear t0 t1 t2 t3 t4 t5 t6 t7 t8 t9 v0 v1
              try clear v2 v3 v4 v5 v6 v7 v8 v9 x0 x1 x2 x3
              try clear x4 x5 x6 x7 x8 x9 y0 y1 y2 y3 y4 y5
              try clear y6 y7 y8 y9 z0 z1 z2 z3 z4 z5 z6 z7
              try clear z8 z9 A1 A2 A3 A4 A5 A6 A8 A9 B0 B1
              try clear p2
              obtain ⟨kq, HA, p1, h3, b0, b2, a9, a7, a8, a0, a2, a5, a3, HB⟩ := hcut
              cases kq with
              | zero => exact absurd HA.out (by simp [laws_FnExactEntryOf.j6])
              | succ E0 =>
               have H := HA.out; clear HA; simp only [laws_FnExactEntryOf.j6] at H; replace H := Option.bind_eq_some_iff.mp H; obtain ⟨⟨P0, a2t⟩, U8, H⟩ := H
               try dsimp only at H
               have A92 := zA U8; clear U8; replace H := Option.bind_eq_some_iff.mp H; obtain ⟨⟨a2x, f6⟩, U9, H⟩ := H
               try dsimp only at H
               have A93 := zA U9; clear U9; have P1 := zA H; clear H
               go_upto_region 23 with (first | ((with_reducible refine zq 23 ?_); refine zg (some 73) Try.func23 #[.slice r7 i2.length o8, .int .i64 1] ?_; (with_reducible refine (laws_markEntryS.calls E0 (fun k_ => (((some k_ ≠ (.slice b8 a6.length b5 : Value).ownBlock ∧ (some k_ ≠ (.slice d6 b1.length d3 : Value).ownBlock ∧ (some k_ ≠ (.slice b9 e0.length b7 : Value).ownBlock ∧ (some k_ ≠ (.slice b4 c3.length b3 : Value).ownBlock ∧ (some k_ ≠ (.slice d1 d5.length d0 : Value).ownBlock ∧ (k_ ≠ b6 ∧ k_ ≠ d8)))))) ∧ k_ ≠ e6) ∧ k_ ≠ h1) ∧ w.heap.size ≤ k_) (.slice r7 i2.length o8) i2 1 P0 a2t w _ ?s1 ?s2 A92.out).mono ?_); (case s1 => repeat (first | (with_reducible first | exact HB.out | apply below_alloc | apply pw_below_drewN | apply below_drew1 | refine below_set ?_ N1.out | refine below_set ?_ n8.out | refine below_set ?_ N7.out | refine below_set ?_ N8.out) | exact HB.out)); (case s2 => exact Kd.S_mono (Kd.S_bound (Kd.S_types (Kd.S_types h3.out a0.out (by decide)) a5.out (by decide))) (fun _ hk => ⟨hk.1, hk.2.1⟩)); rintro e w95 ⟨rfl, B2, hb, hkp⟩; refine ⟨_, rfl, ?_⟩; replace h3 := zA (Kd.S_mono (ok' := fun k_ => (some k_ ≠ (.slice b8 a6.length b5 : Value).ownBlock ∧ (some k_ ≠ (.slice d6 b1.length d3 : Value).ownBlock ∧ (some k_ ≠ (.slice b9 e0.length b7 : Value).ownBlock ∧ (some k_ ≠ (.slice b4 c3.length b3 : Value).ownBlock ∧ (some k_ ≠ (.slice d1 d5.length d0 : Value).ownBlock ∧ (k_ ≠ b6 ∧ k_ ≠ d8))))))) B2 (fun k_ hk_ => ⟨hk_.1.1.1.1, ⟨hk_.1.1.1.2.1, ⟨hk_.1.1.1.2.2.1, ⟨hk_.1.1.1.2.2.2.1, ⟨hk_.1.1.1.2.2.2.2.1, ⟨hk_.1.1.1.2.2.2.2.2.1, hk_.1.1.1.2.2.2.2.2.2⟩⟩⟩⟩⟩⟩)); replace b0 := zA (Kd.R_mono (ok' := fun k_ => some k_ ≠ (.slice b9 e0.length b7 : Value).ownBlock ∧ some k_ ≠ (.slice b4 c3.length b3 : Value).ownBlock) (Kd.R_keptB ((Kd.R_tight2 rfl b0.out)) hkp (fun k_ hk_ hs_ => (fun e_ => (e_.1.1.1.1) (hk_.1)) hs_)) (fun k_ hk_ => ⟨hk_.1.2.1, hk_.1.2.2⟩)); replace b2 := zA (Kd.R_mono (ok' := fun k_ => some k_ ≠ (.slice d1 d5.length d0 : Value).ownBlock) (Kd.R_keptB ((Kd.R_tight2 rfl b2.out)) hkp (fun k_ hk_ hs_ => (fun e_ => (e_.1.1.1.2.1) (hk_.1)) hs_)) (fun k_ hk_ => hk_.1.2)); replace a9 := zA (Kd.R_mono (ok' := fun k_ => some k_ ≠ (.slice b8 a6.length b5 : Value).ownBlock ∧ some k_ ≠ (.slice b4 c3.length b3 : Value).ownBlock) (Kd.R_keptB ((Kd.R_tight2 rfl a9.out)) hkp (fun k_ hk_ hs_ => (fun e_ => (e_.1.1.1.2.2.1) (hk_.1)) hs_)) (fun k_ hk_ => ⟨hk_.1.2.1, hk_.1.2.2⟩)); replace a7 := zA (Kd.R_mono (ok' := fun k_ => some k_ ≠ (.slice b8 a6.length b5 : Value).ownBlock ∧ some k_ ≠ (.slice b9 e0.length b7 : Value).ownBlock) (Kd.R_keptB ((Kd.R_tight2 rfl a7.out)) hkp (fun k_ hk_ hs_ => (fun e_ => (e_.1.1.1.2.2.2.1) (hk_.1)) hs_)) (fun k_ hk_ => ⟨hk_.1.2.1, hk_.1.2.2⟩)); replace a8 := zA (Kd.R_mono (ok' := fun k_ => some k_ ≠ (.slice d6 b1.length d3 : Value).ownBlock) (Kd.R_keptB ((Kd.R_tight2 rfl a8.out)) hkp (fun k_ hk_ hs_ => (fun e_ => (e_.1.1.1.2.2.2.2.1) (hk_.1)) hs_)) (fun k_ hk_ => hk_.1.2)); replace a0 := zA (blk_kept (zK a0.out) hkp (fun hs_ => (fun e_ => (e_.1.1.2) rfl) hs_)); replace a2 := zA (blk_kept (zK a2.out) hkp (fun hs_ => (fun e_ => (e_.1.1.1.2.2.2.2.2.1) rfl) hs_)); replace a5 := zA (blk_kept (zK a5.out) hkp (fun hs_ => (fun e_ => (e_.1.2) rfl) hs_)); replace a3 := zA (blk_kept (zK a3.out) hkp (fun hs_ => (fun e_ => (e_.1.1.1.2.2.2.2.2.2) rfl) hs_)); replace HB := zA (hb); (try clear hb); (try clear hkp); (try clear B2); have a5t := U0.out; have a5v := T9.out; have a5x := q8.out; have a5y := q7.out; have a5z := r8.out; have a60 := r9.out; obtain ⟨E8, E9, F0, F1, F2, F3, F4, F5⟩ := ze4 a5.out) | ((with_reducible refine zq 24 ?_); refine zg (some 76) Try.func24 #[.agg #[.int .i64 h5, .int .i64 h6, .int .i64 h7, .slice b9 e0.length b7], .int .i64 P0] ?_; (with_reducible refine (laws_markVer.calls E0 h5 h6 h7 (fun k_ => some k_ = (.slice b9 e0.length b7 : Value).ownBlock) (.slice b9 e0.length b7) e0 P0 a2x f6 w _ ?s1 ?s2 A93.out).mono ?_); (case s1 => repeat (first | (with_reducible first | exact HB.out | apply below_alloc | apply pw_below_drewN | apply below_drew1 | refine below_set ?_ N1.out | refine below_set ?_ n8.out | refine below_set ?_ N7.out | refine below_set ?_ N8.out) | exact HB.out)); (case s2 => exact Kd.R_tight rfl a9.out); rintro e a61 ⟨rfl, B2, hb, hkp⟩; refine ⟨_, rfl, ?_⟩; replace h3 := zA (Kd.S_mono (ok' := fun k_ => some k_ ≠ (.slice b8 a6.length b5 : Value).ownBlock ∧ some k_ ≠ (.slice d6 b1.length d3 : Value).ownBlock ∧ some k_ ≠ (.slice b9 e0.length b7 : Value).ownBlock ∧ some k_ ≠ (.slice b4 c3.length b3 : Value).ownBlock ∧ some k_ ≠ (.slice d1 d5.length d0 : Value).ownBlock ∧ k_ ≠ b6 ∧ k_ ≠ d8) (Kd.S_keptB (h3.out) hkp (fun k_ hk_ hs_ => (hk_.2.2.1) hs_)) (fun k_ hk_ => ⟨hk_.1.1, hk_.1.2.1, hk_.1.2.2.1, hk_.1.2.2.2.1, hk_.1.2.2.2.2.1, hk_.1.2.2.2.2.2.1, hk_.1.2.2.2.2.2.2⟩)); replace b0 := zA (Kd.R_mono (ok' := fun k_ => some k_ ≠ (.slice b9 e0.length b7 : Value).ownBlock ∧ some k_ ≠ (.slice b4 c3.length b3 : Value).ownBlock) (Kd.R_keptB (b0.out) hkp (fun k_ hk_ hs_ => (hk_.1) hs_)) (fun k_ hk_ => ⟨hk_.1.1, hk_.1.2⟩)); replace b2 := zA (Kd.R_mono (ok' := fun k_ => some k_ ≠ (.slice d1 d5.length d0 : Value).ownBlock) (Kd.R_keptB ((Kd.R_apart' b2.out (Kd.R_typed a9.out) (by decide))) hkp (fun k_ hk_ hs_ => (hk_.2) hs_)) (fun k_ hk_ => hk_.1.1)); replace a7 := zA (Kd.R_mono (ok' := fun k_ => some k_ ≠ (.slice b8 a6.length b5 : Value).ownBlock ∧ some k_ ≠ (.slice b9 e0.length b7 : Value).ownBlock) (Kd.R_keptB (a7.out) hkp (fun k_ hk_ hs_ => (hk_.2) hs_)) (fun k_ hk_ => ⟨hk_.1.1, hk_.1.2⟩)); replace a8 := zA (Kd.R_mono (ok' := fun k_ => some k_ ≠ (.slice d6 b1.length d3 : Value).ownBlock) (Kd.R_keptB ((Kd.R_apart' a8.out (Kd.R_typed a9.out) (by decide))) hkp (fun k_ hk_ hs_ => (hk_.2) hs_)) (fun k_ hk_ => hk_.1.1)); replace a0 := zA (blk_kept (zK a0.out) hkp (fun hs_ => (fun e_ => (Kd.R_ne a9.out a0.out (by decide)) e_) hs_)); replace a2 := zA (blk_kept (zK a2.out) hkp (fun hs_ => (fun e_ => (Kd.R_ne a9.out a2.out (by decide)) e_) hs_)); replace a5 := zA (blk_kept (zK a5.out) hkp (fun hs_ => (fun e_ => (Kd.R_ne a9.out a5.out (by decide)) e_) hs_)); replace a3 := zA (blk_kept (zK a3.out) hkp (fun hs_ => (fun e_ => (Kd.R_ne a9.out a3.out (by decide)) e_) hs_)); replace a9 := zA (Kd.R_reok rfl B2 (fun k_ e_ => a9.out.1 k_ e_)); replace HB := zA (hb); (try clear hb); (try clear hkp); (try clear B2)))
               (try simp only [Act.put, zT])
               go_cut [89] (fun v89 wc => ∃ (kq : Nat) (P2 : Bool), v89 = .bool P2 ∧ Aside0 (laws_FnExactEntryOf.j7 kq l0 a1 i9 P2 e1 e2 e3 d9 e7 f0 f4 f7 a6 b1 e8 f1 f5 f8 c3 d5 = some r) ∧ Aside0 (kq ≤ E0) ∧ Aside0 (Kd.R Kd.string 9 wc w.heap.size (fun k_ => some k_ ≠ ((.slice b9 e0.length b7) : Value).ownBlock ∧ some k_ ≠ ((.slice b4 c3.length b3) : Value).ownBlock) (.slice b8 a6.length b5) a6) ∧ Aside0 (Kd.R k94 94 wc w.heap.size (fun k_ => some k_ ≠ ((.slice d1 d5.length d0) : Value).ownBlock) (.slice d6 b1.length d3) b1) ∧ Aside0 (Kd.R Kd.string 9 wc w.heap.size (fun k_ => some k_ ≠ ((.slice b8 a6.length b5) : Value).ownBlock ∧ some k_ ≠ ((.slice b4 c3.length b3) : Value).ownBlock) (.slice b9 e0.length b7) f6) ∧ Aside0 (Kd.R Kd.string 9 wc w.heap.size (fun k_ => some k_ ≠ ((.slice b8 a6.length b5) : Value).ownBlock ∧ some k_ ≠ ((.slice b9 e0.length b7) : Value).ownBlock) (.slice b4 c3.length b3) c3) ∧ Aside0 (Kd.R k94 94 wc w.heap.size (fun k_ => some k_ ≠ ((.slice d6 b1.length d3) : Value).ownBlock) (.slice d1 d5.length d0) d5) ∧ Aside0 (wc.heap[e6]? = some (.cells #[.int .i64 e1, .int .i64 e2, .int .i64 e3, (.slice g7 d9.length g8)] 38 (0, 0))) ∧ Aside0 (wc.heap[b6]? = some (.cells #[.string e7, .int .i64 f0, .int .i64 f4, .int .i64 f7, (.slice b8 a6.length b5), (.slice d6 b1.length d3)] 44 (0, 0))) ∧ Aside0 (wc.heap[h1]? = some (.cells #[.int .i64 h5, .int .i64 h6, .int .i64 h7, (.slice b9 e0.length b7)] 41 (0, 0))) ∧ Aside0 (wc.heap[d8]? = some (.cells #[.string e8, .int .i64 f1, .int .i64 f5, .int .i64 f8, (.slice b4 c3.length b3), (.slice d1 d5.length d0)] 44 (0, 0))) ∧ Aside0 (Below w.heap.size w wc))
               case first =>
                have H := P1.out; clear P1; replace H := zI0 H
                rcases H with ⟨p3, H⟩ | ⟨p3, H⟩
                ·(first | rw [p3] | (simp only [i64_w, i32_w]; rw [p3]) | skip)
                 have H' := zA H; clear H
                 go_wp2
                 go_meet
                 case rel => exact ⟨_, (true), zS, (by first | exact H' | (subst_vars; exact H')), ⟨by have := k6.out; have := l7.out; have := l9.out; have := m8.out; have := o0.out; have := o5.out; have := p1.out; first | omega | exact Nat.le_refl _⟩, ⟨zR b0.out⟩, ⟨zR b2.out⟩, ⟨zR a9.out⟩, ⟨zR a7.out⟩, ⟨zR a8.out⟩, ⟨zK a0.out⟩, ⟨zK a2.out⟩, ⟨zK a5.out⟩, ⟨zK a3.out⟩, ⟨zW HB.out⟩⟩
                (first | rw [p3] | (simp only [i64_w, i32_w]; rw [p3]) | skip)
                replace H := Option.bind_eq_some_iff.mp H; obtain ⟨a62, V0, H⟩ := H
                try dsimp only at H
                have V1 := zA V0; clear V0; replace H := zB0 H
                rcases H with ⟨rfl, H⟩ | ⟨rfl, H⟩
                ·have H' := zA H; clear H; have a63 := C4.out; have a64 := C3.out; have a65 := p0.out; have a66 := o9.out; have a67 := r9.out; have a68 := r8.out; obtain ⟨F6, F7, F8, F9, G0, G1, G2, G3, G4, G5, G6, G7⟩ := ze6 a3.out; have a69 := i3.out; have a6a := g0.out; have a6b := q7.out; have a6c := q8.out; obtain ⟨G8, G9, I0, I1, I2, I3, I4, I5, I6, I7, I8, I9⟩ := ze6 a2.out
                 go_wp2_with (first | (go_at_call 20; (with_reducible refine (laws_eqEntry.calls E0 e8 f1 f5 f8 _ _ c3 _ _ d5 e7 f0 f4 f7 _ _ a6 _ _ b1 true _ ?s1 ?s2 ?s3 ?s4 ?s5 ?s6 ?s7 ?s8 V1.out).mono ?_); (case s1 => repeat (first | exact (Kd.R_reads' a7.out).2.2 | (with_reducible refine Kd.C_alloc ?_ _) | (with_reducible refine Kd.C_drewN ?_ _) | (with_reducible refine Kd.C_drew ?_))); (case s2 => exact (Kd.R_reads' a7.out).2.1); (case s3 => repeat (first | exact (Kd.R_reads' a8.out).2.2 | (with_reducible refine Kd.C_alloc ?_ _) | (with_reducible refine Kd.C_drewN ?_ _) | (with_reducible refine Kd.C_drew ?_))); (case s4 => exact (Kd.R_reads' a8.out).2.1); (case s5 => repeat (first | exact (Kd.R_reads' b0.out).2.2 | (with_reducible refine Kd.C_alloc ?_ _) | (with_reducible refine Kd.C_drewN ?_ _) | (with_reducible refine Kd.C_drew ?_))); (case s6 => exact (Kd.R_reads' b0.out).2.1); (case s7 => repeat (first | exact (Kd.R_reads' b2.out).2.2 | (with_reducible refine Kd.C_alloc ?_ _) | (with_reducible refine Kd.C_drewN ?_ _) | (with_reducible refine Kd.C_drew ?_))); (case s8 => exact (Kd.R_reads' b2.out).2.1); rintro e a6d ⟨rfl, hb⟩; replace h3 := zA (Kd.S_below (by (with_reducible repeat (first | apply Kd.S_alloc | apply Kd.S_drewN | apply Kd.S_drew)); exact h3.out) hb); replace b0 := zr b0 hb; replace b2 := zr b2 hb; replace a9 := zr a9 hb; replace a7 := zr a7 hb; replace a8 := zr a8 hb; replace a0 := zb a0 hb; replace a2 := zb a2 hb; replace a5 := zb a5 hb; replace a3 := zb a3 hb; replace HB := zh HB hb; (try clear hb)))
                 go_meet
                 case rel => exact ⟨_, ((C2 != i9)), zS, (by first | exact H' | (subst_vars; exact H')), ⟨by have := k6.out; have := l7.out; have := l9.out; have := m8.out; have := o0.out; have := o5.out; have := p1.out; first | omega | exact Nat.le_refl _⟩, ⟨zR b0.out⟩, ⟨zR b2.out⟩, ⟨zR a9.out⟩, ⟨zR a7.out⟩, ⟨zR a8.out⟩, ⟨zK a0.out⟩, ⟨zK a2.out⟩, ⟨zK a5.out⟩, ⟨zK a3.out⟩, ⟨zW HB.out⟩⟩
                have H' := zA H; clear H; have a6e := C4.out; have a6f := C3.out; have a6g := p0.out; have a6h := o9.out; have a6i := r9.out; have a6j := r8.out; obtain ⟨J0, J1, J2, J3, J4, J5, J6, J7, J8, J9, L0, L1⟩ := ze6 a3.out; have a6k := i3.out; have a6l := g0.out; have a6m := q7.out; have a6n := q8.out; obtain ⟨L2, L3, L4, L5, L6, L7, L8, L9, M0, M1, M2, M3⟩ := ze6 a2.out
                go_wp2_with (first | (go_at_call 20; (with_reducible refine (laws_eqEntry.calls E0 e8 f1 f5 f8 _ _ c3 _ _ d5 e7 f0 f4 f7 _ _ a6 _ _ b1 false _ ?s1 ?s2 ?s3 ?s4 ?s5 ?s6 ?s7 ?s8 V1.out).mono ?_); (case s1 => repeat (first | exact (Kd.R_reads' a7.out).2.2 | (with_reducible refine Kd.C_alloc ?_ _) | (with_reducible refine Kd.C_drewN ?_ _) | (with_reducible refine Kd.C_drew ?_))); (case s2 => exact (Kd.R_reads' a7.out).2.1); (case s3 => repeat (first | exact (Kd.R_reads' a8.out).2.2 | (with_reducible refine Kd.C_alloc ?_ _) | (with_reducible refine Kd.C_drewN ?_ _) | (with_reducible refine Kd.C_drew ?_))); (case s4 => exact (Kd.R_reads' a8.out).2.1); (case s5 => repeat (first | exact (Kd.R_reads' b0.out).2.2 | (with_reducible refine Kd.C_alloc ?_ _) | (with_reducible refine Kd.C_drewN ?_ _) | (with_reducible refine Kd.C_drew ?_))); (case s6 => exact (Kd.R_reads' b0.out).2.1); (case s7 => repeat (first | exact (Kd.R_reads' b2.out).2.2 | (with_reducible refine Kd.C_alloc ?_ _) | (with_reducible refine Kd.C_drewN ?_ _) | (with_reducible refine Kd.C_drew ?_))); (case s8 => exact (Kd.R_reads' b2.out).2.1); rintro e a6o ⟨rfl, hb⟩; replace h3 := zA (Kd.S_below (by (with_reducible repeat (first | apply Kd.S_alloc | apply Kd.S_drewN | apply Kd.S_drew)); exact h3.out) hb); replace b0 := zr b0 hb; replace b2 := zr b2 hb; replace a9 := zr a9 hb; replace a7 := zr a7 hb; replace a8 := zr a8 hb; replace a0 := zb a0 hb; replace a2 := zb a2 hb; replace a5 := zb a5 hb; replace a3 := zb a3 hb; replace HB := zh HB hb; (try clear hb)))
                go_meet
                case rel => exact ⟨_, (true), zS, (by first | exact H' | (subst_vars; exact H')), ⟨by have := k6.out; have := l7.out; have := l9.out; have := m8.out; have := o0.out; have := o5.out; have := p1.out; first | omega | exact Nat.le_refl _⟩, ⟨zR b0.out⟩, ⟨zR b2.out⟩, ⟨zR a9.out⟩, ⟨zR a7.out⟩, ⟨zR a8.out⟩, ⟨zK a0.out⟩, ⟨zK a2.out⟩, ⟨zK a5.out⟩, ⟨zK a3.out⟩, ⟨zW HB.out⟩⟩
               case rest =>
                clear P1
                try clear c1
                try clear c2
                try clear p2
                try clear c4
                try clear c5
                try clear c6
                try clear c7
                try clear c8
                try clear c9
                try clear c10
                try clear c11
                try clear c16
                try clear c17
                try clear c18
                try clear c19
                try clear c20
                try clear c21
                try clear c22
                try clear c23
                try clear c24
                try clear c40
                try clear c44
                try clear c45
                try clear c51
                try clear c52
                try clear c53
                try clear c58
                try clear c59
                try clear c60
                try clear c61
                try clear c63
                try clear c64
                try clear c67
                try clear c68
                try clear c69
                try clear c71
                try clear c72
                try clear c76
                try clear c83
                try clear c91
                try clear c96
                try clear c97
                try clear c98
                try clear c101
                try clear p3
                try clear c103
                try clear c104
                try clear c105
                try clear c106
                try clear c108
                try clear c109
                try clear c112
                try clear c113
                try clear c114
                try clear c116
                try clear c117
                try clear F6 F7 F8 F9 G0 G1 G2 G3 G4 G5 G6 G7
                try clear G8 G9 I0 I1 I2 I3 I4 I5 I6 I7 I8 I9
                try clear J0 J1 J2 J3 J4 J5 J6 J7 J8 J9 L0 L1
                try clear L2 L3 L4 L5 L6 L7 L8 L9 M0 M1 M2 M3
                try clear p9 q0 q1 q2 q3 q4 q5 q6
                try clear q9 r0 r1 r2 r3 r4 r5 r6
                try clear t0 t1 t2 t3 t4 t5 t6 t7 t8 t9 v0 v1
                try clear v2 v3 v4 v5 v6 v7 v8 v9 x0 x1 x2 x3
                try clear x4 x5 x6 x7 x8 x9 y0 y1 y2 y3 y4 y5
                try clear y6 y7 y8 y9 z0 z1 z2 z3 z4 z5 z6 z7
                try clear z8 z9 A1 A2 A3 A4 A5 A6 A8 A9 B0 B1
                try clear E8 E9 F0 F1 F2 F3 F4 F5
                try clear p2
                obtain ⟨kq, P2, rfl, HA, C6, b0, b2, a9, a7, a8, a0, a2, a5, a3, HB⟩ := hcut; have d2 := (Kd.R_reads' a9.out).1; rw [d2] at a9
                (try simp only [d2])
                (try simp only [d2] at a0)
                (try simp only [d2] at a2)
                (try simp only [d2] at a5)
                (try simp only [d2] at a3)
                (try simp only [d2] at b0)
                (try simp only [d2] at b2)
                (try simp only [d2] at a7)
                (try simp only [d2] at a8)
                cases kq with
                | zero => exact absurd HA.out (by simp [laws_FnExactEntryOf.j7])
                | succ a30 =>
                 have H := HA.out; clear HA; simp only [laws_FnExactEntryOf.j7] at H; have P3 := zA H; clear H
                 go_upto_if 89 with (fail)
                 go_cut [] (fun wc => ∃ (kq : Nat), Aside0 (laws_FnExactEntryOf.j8 kq l0 a1 i9 e1 e2 e3 d9 e7 f0 f4 f7 a6 b1 e8 f1 f5 f8 c3 d5 = some r) ∧ Aside0 (kq ≤ a30) ∧ Aside0 (Kd.R Kd.string 9 wc w.heap.size (fun k_ => some k_ ≠ ((.slice b9 f6.length b7) : Value).ownBlock ∧ some k_ ≠ ((.slice b4 c3.length b3) : Value).ownBlock) (.slice b8 a6.length b5) a6) ∧ Aside0 (Kd.R k94 94 wc w.heap.size (fun k_ => some k_ ≠ ((.slice d1 d5.length d0) : Value).ownBlock) (.slice d6 b1.length d3) b1) ∧ Aside0 (Kd.R Kd.string 9 wc w.heap.size (fun k_ => some k_ ≠ ((.slice b8 a6.length b5) : Value).ownBlock ∧ some k_ ≠ ((.slice b4 c3.length b3) : Value).ownBlock) (.slice b9 f6.length b7) f6) ∧ Aside0 (Kd.R Kd.string 9 wc w.heap.size (fun k_ => some k_ ≠ ((.slice b8 a6.length b5) : Value).ownBlock ∧ some k_ ≠ ((.slice b9 f6.length b7) : Value).ownBlock) (.slice b4 c3.length b3) c3) ∧ Aside0 (Kd.R k94 94 wc w.heap.size (fun k_ => some k_ ≠ ((.slice d6 b1.length d3) : Value).ownBlock) (.slice d1 d5.length d0) d5) ∧ Aside0 (wc.heap[e6]? = some (.cells #[.int .i64 e1, .int .i64 e2, .int .i64 e3, (.slice g7 d9.length g8)] 38 (0, 0))) ∧ Aside0 (wc.heap[b6]? = some (.cells #[.string e7, .int .i64 f0, .int .i64 f4, .int .i64 f7, (.slice b8 a6.length b5), (.slice d6 b1.length d3)] 44 (0, 0))) ∧ Aside0 (wc.heap[h1]? = some (.cells #[.int .i64 h5, .int .i64 h6, .int .i64 h7, (.slice b9 f6.length b7)] 41 (0, 0))) ∧ Aside0 (wc.heap[d8]? = some (.cells #[.string e8, .int .i64 f1, .int .i64 f5, .int .i64 f8, (.slice b4 c3.length b3), (.slice d1 d5.length d0)] 44 (0, 0))) ∧ Aside0 (Below w.heap.size w wc))
                 case first =>
                  have H := P3.out; clear P3; replace H := zB0 H
                  rcases H with ⟨rfl, H⟩ | ⟨rfl, H⟩
                  ·exact absurd H (by simp)
                  have H' := zA H; clear H
                  go_wp2
                  go_meet
                  case rel => exact ⟨_, (by first | exact H' | (subst_vars; exact H')), ⟨by have := k6.out; have := l7.out; have := l9.out; have := m8.out; have := o0.out; have := o5.out; have := p1.out; have := C6.out; first | omega | exact Nat.le_refl _⟩, ⟨by (try simp only [d2]); (with_reducible repeat (first | apply Kd.R_alloc | apply Kd.R_drewN | apply Kd.R_drew)); exact b0.out⟩, ⟨by (try simp only [d2]); (with_reducible repeat (first | apply Kd.R_alloc | apply Kd.R_drewN | apply Kd.R_drew)); exact b2.out⟩, ⟨by (try simp only [d2]); (with_reducible repeat (first | apply Kd.R_alloc | apply Kd.R_drewN | apply Kd.R_drew)); exact a9.out⟩, ⟨by (try simp only [d2]); (with_reducible repeat (first | apply Kd.R_alloc | apply Kd.R_drewN | apply Kd.R_drew)); exact a7.out⟩, ⟨by (try simp only [d2]); (with_reducible repeat (first | apply Kd.R_alloc | apply Kd.R_drewN | apply Kd.R_drew)); exact a8.out⟩, ⟨by (try simp only [d2]); (with_reducible repeat (first | refine blk_drewN ?_ _ | refine blk_drew ?_ | refine blk_alloc ?_ _)); exact a0.out⟩, ⟨by (try simp only [d2]); (with_reducible repeat (first | refine blk_drewN ?_ _ | refine blk_drew ?_ | refine blk_alloc ?_ _)); exact a2.out⟩, ⟨by (try simp only [d2]); (with_reducible repeat (first | refine blk_drewN ?_ _ | refine blk_drew ?_ | refine blk_alloc ?_ _)); exact a5.out⟩, ⟨by (try simp only [d2]); (with_reducible repeat (first | refine blk_drewN ?_ _ | refine blk_drew ?_ | refine blk_alloc ?_ _)); exact a3.out⟩, ⟨zW HB.out⟩⟩
                 case rest =>
                  clear P3
                  try clear c1
                  try clear c2
                  try clear p2
                  try clear c4
                  try clear c5
                  try clear c6
                  try clear c7
                  try clear c8
                  try clear c9
                  try clear c10
                  try clear c11
                  try clear c12
                  try clear c16
                  try clear c17
                  try clear c18
                  try clear c19
                  try clear c20
                  try clear c21
                  try clear c22
                  try clear c23
                  try clear c24
                  try clear c40
                  try clear c44
                  try clear c45
                  try clear c51
                  try clear c52
                  try clear c53
                  try clear c58
                  try clear c59
                  try clear c60
                  try clear c61
                  try clear c63
                  try clear c64
                  try clear c67
                  try clear c68
                  try clear c69
                  try clear c71
                  try clear c72
                  try clear c76
                  try clear c83
                  try clear c91
                  try clear c96
                  try clear c97
                  try clear c98
                  try clear c101
                  try clear p3
                  try clear c103
                  try clear c104
                  try clear c105
                  try clear c106
                  try clear c108
                  try clear c109
                  try clear c112
                  try clear c113
                  try clear c114
                  try clear c116
                  try clear c117
                  try clear c121
                  try clear F6 F7 F8 F9 G0 G1 G2 G3 G4 G5 G6 G7
                  try clear G8 G9 I0 I1 I2 I3 I4 I5 I6 I7 I8 I9
                  try clear J0 J1 J2 J3 J4 J5 J6 J7 J8 J9 L0 L1
                  try clear L2 L3 L4 L5 L6 L7 L8 L9 M0 M1 M2 M3
                  try clear p9 q0 q1 q2 q3 q4 q5 q6
                  try clear q9 r0 r1 r2 r3 r4 r5 r6
                  try clear t0 t1 t2 t3 t4 t5 t6 t7 t8 t9 v0 v1
                  try clear v2 v3 v4 v5 v6 v7 v8 v9 x0 x1 x2 x3
                  try clear x4 x5 x6 x7 x8 x9 y0 y1 y2 y3 y4 y5
                  try clear y6 y7 y8 y9 z0 z1 z2 z3 z4 z5 z6 z7
                  try clear z8 z9 A1 A2 A3 A4 A5 A6 A8 A9 B0 B1
                  try clear E8 E9 F0 F1 F2 F3 F4 F5
                  try clear p2
                  obtain ⟨kq, HA, E1, b0, b2, a9, a7, a8, a0, a2, a5, a3, HB⟩ := hcut
                  cases kq with
                  | zero => exact absurd HA.out (by simp [laws_FnExactEntryOf.j8])
                  | succ P4 =>
                   have H := HA.out; clear HA; simp only [laws_FnExactEntryOf.j8] at H; replace H := Option.bind_eq_some_iff.mp H; obtain ⟨⟨E2, f3, g1⟩, V2, H⟩ := H
                   try dsimp only at H
                   have a31 := zA V2; clear V2; replace H := Option.bind_eq_some_iff.mp H; obtain ⟨V3, V4, H⟩ := H
                   try dsimp only at H
                   have a32 := zA V4; clear V4; have P5 := zA H; clear H; have a6p := C4.out; have a6q := C3.out; have a6r := p0.out; have a6s := o9.out; have a6t := r9.out; have a6v := r8.out; obtain ⟨V5, V6, V7, V8, V9, X0, X1, X2, X3, X4, X5, X6⟩ := ze6 a3.out
                   go_upto_if 97 with (first | ((with_reducible refine zq 25 ?_); refine zg (some 92) Try.func25 #[.agg #[.string e8, .int .i64 f1, .int .i64 f5, .int .i64 f8, .slice b4 c3.length b3, .slice d1 d5.length d0], .int .i64 1] ?_; (with_reducible refine (laws_markEntry.calls P4 e8 f1 f5 f8 (fun k_ => some k_ = (.slice b4 c3.length b3 : Value).ownBlock) (.slice b4 c3.length b3) c3 (fun k_ => some k_ = (.slice d1 d5.length d0 : Value).ownBlock) (.slice d1 d5.length d0) d5 1 E2 f3 g1 w _ ?s1 ?s2 ?s3 a31.out).mono ?_); (case s1 => repeat (first | (with_reducible first | exact HB.out | apply below_alloc | apply pw_below_drewN | apply below_drew1 | refine below_set ?_ N1.out | refine below_set ?_ n8.out | refine below_set ?_ N7.out | refine below_set ?_ N8.out) | exact HB.out)); (case s2 => exact Kd.R_tight rfl a7.out); (case s3 => exact Kd.R_tight rfl a8.out); rintro e a6x ⟨rfl, B2, X7, hb, hkp⟩; refine ⟨_, rfl, ?_⟩; replace b0 := zA (Kd.R_mono (ok' := fun k_ => some k_ ≠ (.slice b9 f6.length b7 : Value).ownBlock ∧ some k_ ≠ (.slice b4 c3.length b3 : Value).ownBlock) (Kd.R_keptB ((Kd.R_apart' b0.out (Kd.R_typed a8.out) (by decide))) hkp (fun k_ hk_ hs_ => Or.elim hs_ (fun e_ => (hk_.1.2) e_) (fun e_ => (hk_.2) e_))) (fun k_ hk_ => ⟨hk_.1.1.1, hk_.1.1.2⟩)); replace b2 := zA (Kd.R_mono (ok' := fun k_ => some k_ ≠ (.slice d1 d5.length d0 : Value).ownBlock) (Kd.R_keptB ((Kd.R_apart' b2.out (Kd.R_typed a7.out) (by decide))) hkp (fun k_ hk_ hs_ => Or.elim hs_ (fun e_ => (hk_.2) e_) (fun e_ => (hk_.1) e_))) (fun k_ hk_ => hk_.1.1)); replace a9 := zA (Kd.R_mono (ok' := fun k_ => some k_ ≠ (.slice b8 a6.length b5 : Value).ownBlock ∧ some k_ ≠ (.slice b4 c3.length b3 : Value).ownBlock) (Kd.R_keptB ((Kd.R_apart' a9.out (Kd.R_typed a8.out) (by decide))) hkp (fun k_ hk_ hs_ => Or.elim hs_ (fun e_ => (hk_.1.2) e_) (fun e_ => (hk_.2) e_))) (fun k_ hk_ => ⟨hk_.1.1.1, hk_.1.1.2⟩)); replace a0 := zA (blk_kept (zK a0.out) hkp (fun hs_ => Or.elim hs_ (fun e_ => (fun e_ => (Kd.R_ne a7.out a0.out (by decide)) e_) e_) (fun e_ => (fun e_ => (Kd.R_ne a8.out a0.out (by decide)) e_) e_))); replace a2 := zA (blk_kept (zK a2.out) hkp (fun hs_ => Or.elim hs_ (fun e_ => (fun e_ => (Kd.R_ne a7.out a2.out (by decide)) e_) e_) (fun e_ => (fun e_ => (Kd.R_ne a8.out a2.out (by decide)) e_) e_))); replace a5 := zA (blk_kept (zK a5.out) hkp (fun hs_ => Or.elim hs_ (fun e_ => (fun e_ => (Kd.R_ne a7.out a5.out (by decide)) e_) e_) (fun e_ => (fun e_ => (Kd.R_ne a8.out a5.out (by decide)) e_) e_))); replace a3 := zA (blk_kept (zK a3.out) hkp (fun hs_ => Or.elim hs_ (fun e_ => (fun e_ => (Kd.R_ne a7.out a3.out (by decide)) e_) e_) (fun e_ => (fun e_ => (Kd.R_ne a8.out a3.out (by decide)) e_) e_))); replace a7 := zA (Kd.R_reok rfl B2 (fun k_ e_ => a7.out.1 k_ e_)); replace a8 := zA (Kd.R_reok rfl X7 (fun k_ e_ => a8.out.1 k_ e_)); replace HB := zA (hb); (try clear hb); (try clear hkp); (try clear B2); (try clear X7); obtain ⟨X8, X9, Y0, Y1, Y2, Y3, Y4, Y5, Y6, Y7, Y8, Y9⟩ := ze6 a3.out) | ((with_reducible refine gate_callee (f := 26) rfl ?_); refine goesL_ (some 95) rfl rfl Try.func26 (by kernel_rfl) rfl #[.agg #[.string e8, .int .i64 f1, .int .i64 f5, .int .i64 f8, .slice b4 f3.length b3, .slice d1 g1.length d0], .int .i64 1] rfl (by (try simp only [List.map_toArray, List.map_cons, List.map_nil]); first | done | (rw [show f3.length = c3.length from (Kd.R_reads' a7.out).1.symm, show g1.length = d5.length from (Kd.R_reads' a8.out).1.symm] <;> rfl) | rfl | (simp only [List.length_drop, List.length_take]; rfl)) ?_; (with_reducible refine (laws_heldEntry.calls P4 e8 f1 f5 f8 _ _ f3 _ _ g1 1 V3 _ ?s1 ?s2 ?s3 ?s4 a32.out).mono ?_); (case s1 => repeat (first | exact (Kd.R_reads' a7.out).2.2 | (with_reducible refine Kd.C_alloc ?_ _) | (with_reducible refine Kd.C_drewN ?_ _) | (with_reducible refine Kd.C_drew ?_))); (case s2 => rw [show f3.length = c3.length from (Kd.R_reads' a7.out).1.symm]; exact (Kd.R_reads' a7.out).2.1); (case s3 => repeat (first | exact (Kd.R_reads' a8.out).2.2 | (with_reducible refine Kd.C_alloc ?_ _) | (with_reducible refine Kd.C_drewN ?_ _) | (with_reducible refine Kd.C_drew ?_))); (case s4 => rw [show g1.length = d5.length from (Kd.R_reads' a8.out).1.symm]; exact (Kd.R_reads' a8.out).2.1); rintro e a6y ⟨rfl, hb⟩; refine ⟨_, rfl, ?_⟩; replace b0 := zr b0 hb; replace b2 := zr b2 hb; replace a9 := zr a9 hb; replace a7 := zr a7 hb; replace a8 := zr a8 hb; replace a0 := zb a0 hb; replace a2 := zb a2 hb; replace a5 := zb a5 hb; replace a3 := zb a3 hb; replace HB := zh HB hb; (try clear hb)))
                   (try simp only [Act.put, zT])
                   go_cut [] (fun wc => ∃ (kq : Nat), Aside0 (laws_FnExactEntryOf.j9 kq l0 a1 i9 E2 V3 e1 e2 e3 d9 e7 f0 f4 f7 a6 b1 e8 f1 f5 f8 f3 g1 = some r) ∧ Aside0 (kq ≤ P4) ∧ Aside0 (Kd.R Kd.string 9 wc w.heap.size (fun k_ => some k_ ≠ ((.slice b9 f6.length b7) : Value).ownBlock ∧ some k_ ≠ ((.slice b4 c3.length b3) : Value).ownBlock) (.slice b8 a6.length b5) a6) ∧ Aside0 (Kd.R k94 94 wc w.heap.size (fun k_ => some k_ ≠ ((.slice d1 d5.length d0) : Value).ownBlock) (.slice d6 b1.length d3) b1) ∧ Aside0 (Kd.R Kd.string 9 wc w.heap.size (fun k_ => some k_ ≠ ((.slice b8 a6.length b5) : Value).ownBlock ∧ some k_ ≠ ((.slice b4 c3.length b3) : Value).ownBlock) (.slice b9 f6.length b7) f6) ∧ Aside0 (Kd.R Kd.string 9 wc w.heap.size (fun k_ => some k_ ≠ ((.slice b8 a6.length b5) : Value).ownBlock ∧ some k_ ≠ ((.slice b9 f6.length b7) : Value).ownBlock) (.slice b4 c3.length b3) f3) ∧ Aside0 (Kd.R k94 94 wc w.heap.size (fun k_ => some k_ ≠ ((.slice d6 b1.length d3) : Value).ownBlock) (.slice d1 d5.length d0) g1) ∧ Aside0 (wc.heap[e6]? = some (.cells #[.int .i64 e1, .int .i64 e2, .int .i64 e3, (.slice g7 d9.length g8)] 38 (0, 0))) ∧ Aside0 (wc.heap[b6]? = some (.cells #[.string e7, .int .i64 f0, .int .i64 f4, .int .i64 f7, (.slice b8 a6.length b5), (.slice d6 b1.length d3)] 44 (0, 0))) ∧ Aside0 (wc.heap[h1]? = some (.cells #[.int .i64 h5, .int .i64 h6, .int .i64 h7, (.slice b9 f6.length b7)] 41 (0, 0))) ∧ Aside0 (wc.heap[d8]? = some (.cells #[.string e8, .int .i64 f1, .int .i64 f5, .int .i64 f8, (.slice b4 c3.length b3), (.slice d1 d5.length d0)] 44 (0, 0))) ∧ Aside0 (Below w.heap.size w wc))
                   case first =>
                    have H := P5.out; clear P5; replace H := zI1 H
                    rcases H with ⟨E3, H⟩ | ⟨E3, H⟩
                    ·exact absurd H (by simp)
                    have M4 := decide_eq_false E3; clear E3
                    (first | rw [M4] | (simp only [i64_w, i32_w]; rw [M4]) | skip)
                    have H' := zA H; clear H
                    go_wp2
                    go_meet
                    case rel => exact ⟨_, (by first | exact H' | (subst_vars; exact H')), ⟨by have := k6.out; have := l7.out; have := l9.out; have := m8.out; have := o0.out; have := o5.out; have := p1.out; have := C6.out; have := E1.out; first | omega | exact Nat.le_refl _⟩, ⟨by (try simp only [d2]); (with_reducible repeat (first | apply Kd.R_alloc | apply Kd.R_drewN | apply Kd.R_drew)); exact b0.out⟩, ⟨by (try simp only [d2]); (with_reducible repeat (first | apply Kd.R_alloc | apply Kd.R_drewN | apply Kd.R_drew)); exact b2.out⟩, ⟨by (try simp only [d2]); (with_reducible repeat (first | apply Kd.R_alloc | apply Kd.R_drewN | apply Kd.R_drew)); exact a9.out⟩, ⟨by (try simp only [d2]); (with_reducible repeat (first | apply Kd.R_alloc | apply Kd.R_drewN | apply Kd.R_drew)); exact a7.out⟩, ⟨by (try simp only [d2]); (with_reducible repeat (first | apply Kd.R_alloc | apply Kd.R_drewN | apply Kd.R_drew)); exact a8.out⟩, ⟨by (try simp only [d2]); (with_reducible repeat (first | refine blk_drewN ?_ _ | refine blk_drew ?_ | refine blk_alloc ?_ _)); exact a0.out⟩, ⟨by (try simp only [d2]); (with_reducible repeat (first | refine blk_drewN ?_ _ | refine blk_drew ?_ | refine blk_alloc ?_ _)); exact a2.out⟩, ⟨by (try simp only [d2]); (with_reducible repeat (first | refine blk_drewN ?_ _ | refine blk_drew ?_ | refine blk_alloc ?_ _)); exact a5.out⟩, ⟨by (try simp only [d2]); (with_reducible repeat (first | refine blk_drewN ?_ _ | refine blk_drew ?_ | refine blk_alloc ?_ _)); exact a3.out⟩, ⟨zW HB.out⟩⟩
                   case rest =>
                    clear P5
                    try clear c1
                    try clear c2
                    try clear p2
                    try clear c4
                    try clear c5
                    try clear c6
                    try clear c7
                    try clear c8
                    try clear c9
                    try clear c10
                    try clear c11
                    try clear c12
                    try clear c13
                    try clear c16
                    try clear c17
                    try clear c18
                    try clear c19
                    try clear c20
                    try clear c21
                    try clear c22
                    try clear c23
                    try clear c24
                    try clear c25
                    try clear c26
                    try clear c40
                    try clear c44
                    try clear c45
                    try clear c51
                    try clear c52
                    try clear c53
                    try clear c58
                    try clear c59
                    try clear c60
                    try clear c61
                    try clear c63
                    try clear c64
                    try clear c67
                    try clear c68
                    try clear c69
                    try clear c71
                    try clear c72
                    try clear c76
                    try clear c83
                    try clear c91
                    try clear c96
                    try clear c97
                    try clear c98
                    try clear c101
                    try clear p3
                    try clear c103
                    try clear c104
                    try clear c105
                    try clear c106
                    try clear c108
                    try clear c109
                    try clear c112
                    try clear c113
                    try clear c114
                    try clear c116
                    try clear c117
                    try clear c121
                    try clear c125
                    try clear c126
                    try clear c127
                    try clear E3
                    try clear M4
                    try clear F6 F7 F8 F9 G0 G1 G2 G3 G4 G5 G6 G7
                    try clear G8 G9 I0 I1 I2 I3 I4 I5 I6 I7 I8 I9
                    try clear J0 J1 J2 J3 J4 J5 J6 J7 J8 J9 L0 L1
                    try clear L2 L3 L4 L5 L6 L7 L8 L9 M0 M1 M2 M3
                    try clear V5 V6 V7 V8 V9 X0 X1 X2 X3 X4 X5 X6
                    try clear X8 X9 Y0 Y1 Y2 Y3 Y4 Y5 Y6 Y7 Y8 Y9
                    try clear p9 q0 q1 q2 q3 q4 q5 q6
                    try clear q9 r0 r1 r2 r3 r4 r5 r6
                    try clear t0 t1 t2 t3 t4 t5 t6 t7 t8 t9 v0 v1
                    try clear v2 v3 v4 v5 v6 v7 v8 v9 x0 x1 x2 x3
                    try clear x4 x5 x6 x7 x8 x9 y0 y1 y2 y3 y4 y5
                    try clear y6 y7 y8 y9 z0 z1 z2 z3 z4 z5 z6 z7
                    try clear z8 z9 A1 A2 A3 A4 A5 A6 A8 A9 B0 B1
                    try clear E8 E9 F0 F1 F2 F3 F4 F5
                    try clear p2
                    obtain ⟨kq, HA, M5, b0, b2, a9, a7, a8, a0, a2, a5, a3, HB⟩ := hcut; have e4 := (Kd.R_reads' a7.out).1; rw [e4] at a7
                    (try simp only [e4])
                    (try simp only [e4] at a0)
                    (try simp only [e4] at a2)
                    (try simp only [e4] at a5)
                    (try simp only [e4] at a3)
                    (try simp only [e4] at b0)
                    (try simp only [e4] at b2)
                    (try simp only [e4] at a9)
                    (try simp only [e4] at a8)
                    have e5 := (Kd.R_reads' a8.out).1; rw [e5] at a8
                    (try simp only [e5])
                    (try simp only [e5] at a0)
                    (try simp only [e5] at a2)
                    (try simp only [e5] at a5)
                    (try simp only [e5] at a3)
                    (try simp only [e5] at b0)
                    (try simp only [e5] at b2)
                    (try simp only [e5] at a9)
                    (try simp only [e5] at a7)
                    cases kq with
                    | zero => exact absurd HA.out (by simp [laws_FnExactEntryOf.j9])
                    | succ a33 =>
                     have H := HA.out; clear HA; simp only [laws_FnExactEntryOf.j9] at H; have P6 := zA H; clear H
                     go_upto_if 100 with (fail)
                     go_cut [] (fun wc => ∃ (kq : Nat), Aside0 (laws_FnExactEntryOf.j10 kq l0 a1 i9 E2 e1 e2 e3 d9 e7 f0 f4 f7 a6 b1 e8 f1 f5 f8 f3 g1 = some r) ∧ Aside0 (kq ≤ a33) ∧ Aside0 (Kd.R Kd.string 9 wc w.heap.size (fun k_ => some k_ ≠ ((.slice b9 f6.length b7) : Value).ownBlock ∧ some k_ ≠ ((.slice b4 f3.length b3) : Value).ownBlock) (.slice b8 a6.length b5) a6) ∧ Aside0 (Kd.R k94 94 wc w.heap.size (fun k_ => some k_ ≠ ((.slice d1 g1.length d0) : Value).ownBlock) (.slice d6 b1.length d3) b1) ∧ Aside0 (Kd.R Kd.string 9 wc w.heap.size (fun k_ => some k_ ≠ ((.slice b8 a6.length b5) : Value).ownBlock ∧ some k_ ≠ ((.slice b4 f3.length b3) : Value).ownBlock) (.slice b9 f6.length b7) f6) ∧ Aside0 (Kd.R Kd.string 9 wc w.heap.size (fun k_ => some k_ ≠ ((.slice b8 a6.length b5) : Value).ownBlock ∧ some k_ ≠ ((.slice b9 f6.length b7) : Value).ownBlock) (.slice b4 f3.length b3) f3) ∧ Aside0 (Kd.R k94 94 wc w.heap.size (fun k_ => some k_ ≠ ((.slice d6 b1.length d3) : Value).ownBlock) (.slice d1 g1.length d0) g1) ∧ Aside0 (wc.heap[e6]? = some (.cells #[.int .i64 e1, .int .i64 e2, .int .i64 e3, (.slice g7 d9.length g8)] 38 (0, 0))) ∧ Aside0 (wc.heap[b6]? = some (.cells #[.string e7, .int .i64 f0, .int .i64 f4, .int .i64 f7, (.slice b8 a6.length b5), (.slice d6 b1.length d3)] 44 (0, 0))) ∧ Aside0 (wc.heap[h1]? = some (.cells #[.int .i64 h5, .int .i64 h6, .int .i64 h7, (.slice b9 f6.length b7)] 41 (0, 0))) ∧ Aside0 (wc.heap[d8]? = some (.cells #[.string e8, .int .i64 f1, .int .i64 f5, .int .i64 f8, (.slice b4 f3.length b3), (.slice d1 g1.length d0)] 44 (0, 0))) ∧ Aside0 (Below w.heap.size w wc))
                     case first =>
                      have H := P6.out; clear P6; replace H := zC0 H; obtain ⟨M6, H⟩ := H; have P7 := beq_iff_eq.mpr M6; have a34 := bne_eq_false_iff_eq.mpr M6; clear M6
                      (first | rw [P7] | (simp only [i64_w, i32_w]; rw [P7]) | skip)
                      have H' := zA H; clear H
                      go_wp2
                      go_meet
                      case rel => exact ⟨_, (by first | exact H' | (subst_vars; exact H')), ⟨by have := k6.out; have := l7.out; have := l9.out; have := m8.out; have := o0.out; have := o5.out; have := p1.out; have := C6.out; have := E1.out; have := M5.out; first | omega | exact Nat.le_refl _⟩, ⟨by (try simp only [d2]); (try simp only [e4]); (try simp only [e5]); (with_reducible repeat (first | apply Kd.R_alloc | apply Kd.R_drewN | apply Kd.R_drew)); exact b0.out⟩, ⟨by (try simp only [d2]); (try simp only [e4]); (try simp only [e5]); (with_reducible repeat (first | apply Kd.R_alloc | apply Kd.R_drewN | apply Kd.R_drew)); exact b2.out⟩, ⟨by (try simp only [d2]); (try simp only [e4]); (try simp only [e5]); (with_reducible repeat (first | apply Kd.R_alloc | apply Kd.R_drewN | apply Kd.R_drew)); exact a9.out⟩, ⟨by (try simp only [d2]); (try simp only [e4]); (try simp only [e5]); (with_reducible repeat (first | apply Kd.R_alloc | apply Kd.R_drewN | apply Kd.R_drew)); exact a7.out⟩, ⟨by (try simp only [d2]); (try simp only [e4]); (try simp only [e5]); (with_reducible repeat (first | apply Kd.R_alloc | apply Kd.R_drewN | apply Kd.R_drew)); exact a8.out⟩, ⟨by (try simp only [d2]); (try simp only [e4]); (try simp only [e5]); (with_reducible repeat (first | refine blk_drewN ?_ _ | refine blk_drew ?_ | refine blk_alloc ?_ _)); exact a0.out⟩, ⟨by (try simp only [d2]); (try simp only [e4]); (try simp only [e5]); (with_reducible repeat (first | refine blk_drewN ?_ _ | refine blk_drew ?_ | refine blk_alloc ?_ _)); exact a2.out⟩, ⟨by (try simp only [d2]); (try simp only [e4]); (try simp only [e5]); (with_reducible repeat (first | refine blk_drewN ?_ _ | refine blk_drew ?_ | refine blk_alloc ?_ _)); exact a5.out⟩, ⟨by (try simp only [d2]); (try simp only [e4]); (try simp only [e5]); (with_reducible repeat (first | refine blk_drewN ?_ _ | refine blk_drew ?_ | refine blk_alloc ?_ _)); exact a3.out⟩, ⟨zW HB.out⟩⟩
                     case rest =>
                      clear P6
                      try clear c1
                      try clear c2
                      try clear p2
                      try clear c4
                      try clear c5
                      try clear c6
                      try clear c7
                      try clear c8
                      try clear c9
                      try clear c10
                      try clear c11
                      try clear c12
                      try clear c13
                      try clear c16
                      try clear c17
                      try clear c18
                      try clear c19
                      try clear c20
                      try clear c21
                      try clear c22
                      try clear c23
                      try clear c24
                      try clear c25
                      try clear c26
                      try clear c40
                      try clear c44
                      try clear c45
                      try clear c51
                      try clear c52
                      try clear c53
                      try clear c58
                      try clear c59
                      try clear c60
                      try clear c61
                      try clear c63
                      try clear c64
                      try clear c67
                      try clear c68
                      try clear c69
                      try clear c71
                      try clear c72
                      try clear c76
                      try clear c83
                      try clear c91
                      try clear c96
                      try clear c97
                      try clear c98
                      try clear c101
                      try clear p3
                      try clear c103
                      try clear c104
                      try clear c105
                      try clear c106
                      try clear c108
                      try clear c109
                      try clear c112
                      try clear c113
                      try clear c114
                      try clear c116
                      try clear c117
                      try clear c121
                      try clear c125
                      try clear c126
                      try clear c127
                      try clear E3
                      try clear M4
                      try clear M6
                      try clear P7
                      try clear a34
                      try clear F6 F7 F8 F9 G0 G1 G2 G3 G4 G5 G6 G7
                      try clear G8 G9 I0 I1 I2 I3 I4 I5 I6 I7 I8 I9
                      try clear J0 J1 J2 J3 J4 J5 J6 J7 J8 J9 L0 L1
                      try clear L2 L3 L4 L5 L6 L7 L8 L9 M0 M1 M2 M3
                      try clear V5 V6 V7 V8 V9 X0 X1 X2 X3 X4 X5 X6
                      try clear X8 X9 Y0 Y1 Y2 Y3 Y4 Y5 Y6 Y7 Y8 Y9
                      try clear p9 q0 q1 q2 q3 q4 q5 q6
                      try clear q9 r0 r1 r2 r3 r4 r5 r6
                      try clear t0 t1 t2 t3 t4 t5 t6 t7 t8 t9 v0 v1
                      try clear v2 v3 v4 v5 v6 v7 v8 v9 x0 x1 x2 x3
                      try clear x4 x5 x6 x7 x8 x9 y0 y1 y2 y3 y4 y5
                      try clear y6 y7 y8 y9 z0 z1 z2 z3 z4 z5 z6 z7
                      try clear z8 z9 A1 A2 A3 A4 A5 A6 A8 A9 B0 B1
                      try clear E8 E9 F0 F1 F2 F3 F4 F5
                      try clear p2
                      obtain ⟨kq, HA, P8, b0, b2, a9, a7, a8, a0, a2, a5, a3, HB⟩ := hcut
                      cases kq with
                      | zero => exact absurd HA.out (by simp [laws_FnExactEntryOf.j10])
                      | succ m9 =>
                       have H := HA.out; clear HA; simp only [laws_FnExactEntryOf.j10] at H; replace H := Option.bind_eq_some_iff.mp H; obtain ⟨k9, Z0, H⟩ := H
                       try dsimp only at H
                       have Z1 := zA Z0; clear Z0; replace H := Option.bind_eq_some_iff.mp H; obtain ⟨⟨n0, n1, n2, k3⟩, Z2, H⟩ := H
                       try dsimp only at H
                       have P9 := zA Z2; clear Z2; replace H := Option.bind_eq_some_iff.mp H; obtain ⟨⟨h8, h9, i0, i4, h2, h4, B3⟩, Z3, H⟩ := H
                       try dsimp only at H
                       have M7 := zA Z3; clear Z3; have Q0 := zA H; clear H
                       try go_wp2
                       replace b0 := zA (Kd.R_drew b0.out); replace b2 := zA (Kd.R_drew b2.out); replace a9 := zA (Kd.R_drew a9.out); replace a7 := zA (Kd.R_drew a7.out); replace a8 := zA (Kd.R_drew a8.out); replace a0 := zA (blk_drew a0.out); replace a2 := zA (blk_drew a2.out); replace a5 := zA (blk_drew a5.out); replace a3 := zA (blk_drew a3.out); replace HB := zA (below_drew1 HB.out)
                       refine start_ (n := 12) (S := fun w' => w'.cell? ⟨e6, 0, none⟩ = some (.int .i64 e1) ∧ w'.cell? ⟨e6, 1, none⟩ = some (.int .i64 e2) ∧ w'.cell? ⟨e6, 2, none⟩ = some (.int .i64 e3) ∧ w'.cell? ⟨e6, 3, none⟩ = some (.slice g7 d9.length g8)) (ds := []) (Array.replicate 12 false) (by kernel_rfl) rfl rfl zO fun hHeld => ?_; refine with_tabW laws_FnExactEntryOf.tab33 laws_FnExactEntryOf.bits33 (fun HT_ HW_ => ?_)
                       generalize wc.drew = a6z at b0 b2 a9 a7 a8 a0 a2 a5 a3 HB hHeld ⊢; refine zp 0 102 ?_; refine zp 2 104 ?_; refine zt 3 105 ?_
                       refine join_ (σ := Value × Value × Value × Value × Nat) 2 #[true, true, true, true, true, true, true, true, true, true, false, false] (fun s_ => [(103, s_.1), (106, .agg #[.int .i64 n0, .int .i64 n1, .int .i64 n2, s_.2.1]), (107, .tuple #[.agg #[.string h8, .int .i64 h9, .int .i64 i0, .int .i64 i4, s_.2.2.1, s_.2.2.2.1], .bool B3]), (17, .pointer (some ⟨s_.2.2.2.2, 0, none⟩)), (101, .tuple #[.agg #[.string h8, .int .i64 h9, .int .i64 i0, .int .i64 i4, s_.2.2.1, s_.2.2.2.1], .bool B3]), (108, .agg #[.string h8, .int .i64 h9, .int .i64 i0, .int .i64 i4, s_.2.2.1, s_.2.2.2.1]), (109, .bool B3)]) (fun s_ w' => (w'.cell? ⟨e6, 0, none⟩ = some (.int .i64 e1) ∧ w'.cell? ⟨e6, 1, none⟩ = some (.int .i64 e2) ∧ w'.cell? ⟨e6, 2, none⟩ = some (.int .i64 e3) ∧ w'.cell? ⟨e6, 3, none⟩ = some (.slice g7 d9.length g8)) ∧ (Kd.S k44 44 w' w.heap.size (fun k_ => some k_ ≠ (s_.2.1 : Value).ownBlock ∧ some k_ ≠ (s_.2.2.1 : Value).ownBlock ∧ some k_ ≠ (s_.2.2.2.1 : Value).ownBlock ∧ some k_ ≠ (.slice b8 a6.length b5 : Value).ownBlock ∧ some k_ ≠ (.slice d6 b1.length d3 : Value).ownBlock ∧ some k_ ≠ (.slice b9 f6.length b7 : Value).ownBlock ∧ some k_ ≠ (.slice b4 f3.length b3 : Value).ownBlock ∧ some k_ ≠ (.slice d1 g1.length d0 : Value).ownBlock ∧ k_ ≠ b6 ∧ k_ ≠ d8 ∧ k_ ≠ s_.2.2.2.2) s_.1 k9) ∧ (Kd.R Kd.string 9 w' w.heap.size (fun k_ => some k_ ≠ (s_.2.2.1 : Value).ownBlock ∧ some k_ ≠ (.slice b8 a6.length b5 : Value).ownBlock ∧ some k_ ≠ (.slice b9 f6.length b7 : Value).ownBlock ∧ some k_ ≠ (.slice b4 f3.length b3 : Value).ownBlock) s_.2.1 k3) ∧ (Kd.R Kd.string 9 w' w.heap.size (fun k_ => some k_ ≠ (s_.2.1 : Value).ownBlock ∧ some k_ ≠ (.slice b8 a6.length b5 : Value).ownBlock ∧ some k_ ≠ (.slice b9 f6.length b7 : Value).ownBlock ∧ some k_ ≠ (.slice b4 f3.length b3 : Value).ownBlock) s_.2.2.1 h2) ∧ (Kd.R k94 94 w' w.heap.size (fun k_ => some k_ ≠ (.slice d6 b1.length d3 : Value).ownBlock ∧ some k_ ≠ (.slice d1 g1.length d0 : Value).ownBlock) s_.2.2.2.1 h4) ∧ (Kd.R Kd.string 9 w' w.heap.size (fun k_ => some k_ ≠ (s_.2.1 : Value).ownBlock ∧ some k_ ≠ (s_.2.2.1 : Value).ownBlock ∧ some k_ ≠ (.slice b9 f6.length b7 : Value).ownBlock ∧ some k_ ≠ (.slice b4 f3.length b3 : Value).ownBlock) (.slice b8 a6.length b5) a6) ∧ (Kd.R k94 94 w' w.heap.size (fun k_ => some k_ ≠ (s_.2.2.2.1 : Value).ownBlock ∧ some k_ ≠ (.slice d1 g1.length d0 : Value).ownBlock) (.slice d6 b1.length d3) b1) ∧ (Kd.R Kd.string 9 w' w.heap.size (fun k_ => some k_ ≠ (s_.2.1 : Value).ownBlock ∧ some k_ ≠ (s_.2.2.1 : Value).ownBlock ∧ some k_ ≠ (.slice b8 a6.length b5 : Value).ownBlock ∧ some k_ ≠ (.slice b4 f3.length b3 : Value).ownBlock) (.slice b9 f6.length b7) f6) ∧ (Kd.R Kd.string 9 w' w.heap.size (fun k_ => some k_ ≠ (s_.2.1 : Value).ownBlock ∧ some k_ ≠ (s_.2.2.1 : Value).ownBlock ∧ some k_ ≠ (.slice b8 a6.length b5 : Value).ownBlock ∧ some k_ ≠ (.slice b9 f6.length b7 : Value).ownBlock) (.slice b4 f3.length b3) f3) ∧ (Kd.R k94 94 w' w.heap.size (fun k_ => some k_ ≠ (s_.2.2.2.1 : Value).ownBlock ∧ some k_ ≠ (.slice d6 b1.length d3 : Value).ownBlock) (.slice d1 g1.length d0) g1) ∧ (w'.heap[e6]? = some (.cells #[.int .i64 e1, .int .i64 e2, .int .i64 e3, .slice g7 d9.length g8] 38 (0, 0))) ∧ (w'.heap[b6]? = some (.cells #[.string e7, .int .i64 f0, .int .i64 f4, .int .i64 f7, .slice b8 a6.length b5, .slice d6 b1.length d3] 44 (0, 0))) ∧ (w'.heap[h1]? = some (.cells #[.int .i64 h5, .int .i64 h6, .int .i64 h7, .slice b9 f6.length b7] 41 (0, 0))) ∧ (w'.heap[d8]? = some (.cells #[.string e8, .int .i64 f1, .int .i64 f5, .int .i64 f8, .slice b4 f3.length b3, .slice d1 g1.length d0] 44 (0, 0))) ∧ (w'.heap[s_.2.2.2.2]? = some (.cells #[.string (⟨#[]⟩ : ByteArray), .int .i64 0, .int .i64 0, .int .i64 0, .slice none 0 0, .slice none 0 0] 44 (0, 0))) ∧ (w.heap.size ≤ s_.2.2.2.2) ∧ (w.heap.size ≤ s_.2.2.2.2) ∧ (e6 ≠ s_.2.2.2.2) ∧ (s_.2.2.2.2 ≠ e6) ∧ (b6 ≠ s_.2.2.2.2) ∧ (s_.2.2.2.2 ≠ b6) ∧ (h1 ≠ s_.2.2.2.2) ∧ (s_.2.2.2.2 ≠ h1) ∧ (d8 ≠ s_.2.2.2.2) ∧ (s_.2.2.2.2 ≠ d8) ∧ (Below w.heap.size w w')) ?_ ?_
                       rotate_left
                       ·intro hCont
                        refine two_ (i := 1) (j := 9) (Ni := some 103) (Nj := some 17) #[true, true, true, true, false, false, false, false, false, false, false, false] #[true, false, true, true, false, false, false, false, false, true, false, false] rfl rfl rfl rfl (two_of HT_.out (by kernel_rfl)) (by decide) (by decide) (fun K hK => ?_) (fun K hK => ?_)
                        ·skip
                         refine goes_ Try.func17 (by kernel_rfl) rfl #[.slice A0 l0.length c0] (by rfl) rfl rfl zM ?_
                         with_reducible refine (laws_toEntryS.calls m9 _ _ l0 k9 _ ?s1 ?s2 Z1.out).mono ?_
                         (case s1 => exact zC (Kd.C_below B9.out HB.out))
                         (case s2 => exact C0.out)
                         rintro e a35 ⟨Q1, rfl, a4, hb⟩
                         refine ⟨_, rfl, ?_⟩
                         have g2 := zA (Kd.S_lower (Kd.S_newB (Kd.S_newB (Kd.S_new' (Kd.S_new' (Kd.S_new' (Kd.S_new' (Kd.S_new' a4 (Kd.R_lt (zR b0.out))) (Kd.R_lt (zR b2.out))) (Kd.R_lt (zR a9.out))) (Kd.R_lt (zR a7.out))) (Kd.R_lt (zR a8.out))) (g := b6) (o := .cells #[.string e7, .int .i64 f0, .int .i64 f4, .int .i64 f7, .slice b8 a6.length b5, .slice d6 b1.length d3] 44 (0, 0)) (zK a2.out)) (g := d8) (o := .cells #[.string e8, .int .i64 f1, .int .i64 f5, .int .i64 f8, .slice b4 f3.length b3, .slice d1 g1.length d0] 44 (0, 0)) (zK a3.out)) (below_size (zW HB.out))); replace b0 := zr b0 hb; replace b2 := zr b2 hb; replace a9 := zr a9 hb; replace a7 := zr a7 hb; replace a8 := zr a8 hb; replace a0 := zb a0 hb; replace a2 := zb a2 hb; replace a5 := zb a5 hb; replace a3 := zb a3 hb; replace HB := zh HB hb
                         (try clear hb a4)
                         refine hK.out _ _ zO fun hHeld => ?_
                         clear hK K; refine zn ?_
                         refine two_ (i := 4) (j := 9) (Ni := some 106) (Nj := some 17) #[true, true, true, true, true, false, false, false, false, false, false, false] #[true, true, true, true, false, false, false, false, false, true, false, false] rfl rfl rfl rfl (two_of HT_.out (by kernel_rfl)) (by decide) (by decide) (fun K hK => ?_) (fun K hK => ?_)
                         ·skip
                          refine goes_ Try.func18 (by kernel_rfl) rfl #[.agg #[.int .i64 e1, .int .i64 e2, .int .i64 e3, .slice g7 d9.length g8]] (by rfl) rfl rfl zM ?_
                          with_reducible refine (laws_toVer.calls m9 e1 e2 e3 _ _ d9 n0 n1 n2 k3 _ ?s1 ?s2 P9.out).mono ?_
                          (case s1 => exact zC (Kd.C_below o6.out HB.out))
                          (case s2 => exact o7.out)
                          rintro e Z4 ⟨m3, rfl, a4, hb⟩
                          refine ⟨_, rfl, ?_⟩
                          replace b2 := zr b2 hb; replace a8 := zr a8 hb; replace g2 := zA (Kd.S_elder' (by (with_reducible repeat (first | apply Kd.S_alloc | apply Kd.S_drewN | apply Kd.S_drew)); exact g2.out) (Kd.R_base a4) hb); have g6 := zA (Kd.R_lower (Kd.R_new' (Kd.R_new' (Kd.R_new' a4 (Kd.R_lt (zR b0.out))) (Kd.R_lt (zR a9.out))) (Kd.R_lt (zR a7.out))) (below_size (zW HB.out))); replace b0 := zA (Kd.R_elder' (zR b0.out) (Kd.R_base a4) hb); replace a9 := zA (Kd.R_elder' (zR a9.out) (Kd.R_base a4) hb); replace a7 := zA (Kd.R_elder' (zR a7.out) (Kd.R_base a4) hb); replace a0 := zb a0 hb; replace a2 := zb a2 hb; replace a5 := zb a5 hb; replace a3 := zb a3 hb; replace HB := zh HB hb
                          (try clear hb a4)
                          obtain ⟨Z5, Z6, Z7⟩ := Kd.S_slice g2.out
                          (first | subst Z7 | (injection Z7 with f1_ f2_ f3_; have g3 := f1_.symm; have g4 := f3_.symm; clear f1_ f2_ f3_; subst g3; subst g4))
                          obtain ⟨o1, o2, o3⟩ := Kd.R_slice g6.out
                          (first | subst o3 | (injection o3 with f1_ f2_ f3_; have g3 := f1_.symm; have g4 := f3_.symm; clear f1_ f2_ f3_; subst g3; subst g4))
                          refine hK.out _ _ zO fun hHeld => ?_
                          clear hK K; refine zn ?_
                          refine two_ (i := 5) (j := 9) (Ni := some 107) (Nj := some 17) #[true, true, true, true, true, true, false, false, false, false, false, false] #[true, true, true, true, true, false, false, false, false, true, false, false] rfl rfl rfl rfl (two_of HT_.out (by kernel_rfl)) (by decide) (by decide) (fun K hK => ?_) (fun K hK => ?_)
                          ·skip
                           refine goes_ Try.func19 (by kernel_rfl) rfl #[.slice Z5 k9.length Z6, .string a1, .agg #[.int .i64 n0, .int .i64 n1, .int .i64 n2, .slice o1 k3.length o2]] (by rfl) rfl rfl zM ?_
                           with_reducible refine (impl_EntryOf.calls m9 _ _ k9 a1 n0 n1 n2 _ _ k3 h8 h9 i0 i4 h2 h4 B3 _ ?s1 ?s2 ?s3 ?s4 M7.out).mono ?_
                           (case s1 => repeat (first | exact (Kd.S_reads' g2.out).2.2 | (with_reducible refine Kd.C_alloc ?_ _) | (with_reducible refine Kd.C_drewN ?_ _) | (with_reducible refine Kd.C_drew ?_)))
                           (case s2 => exact (Kd.S_reads' g2.out).2.1)
                           (case s3 => repeat (first | exact (Kd.R_reads' g6.out).2.2 | (with_reducible refine Kd.C_alloc ?_ _) | (with_reducible refine Kd.C_drewN ?_ _) | (with_reducible refine Kd.C_drew ?_)))
                           (case s4 => exact (Kd.R_reads' g6.out).2.1)
                           rintro e a70 ⟨m0, n3, rfl, a4, f9, hb⟩
                           refine ⟨_, rfl, ?_⟩
                           replace g2 := zA (Kd.S_mono (Kd.S_told (Kd.S_told (Kd.S_old (by (with_reducible repeat (first | apply Kd.S_alloc | apply Kd.S_drewN | apply Kd.S_drew)); exact g2.out) hb) (Kd.R_base a4)) (Kd.R_base f9)) (fun _ h_ => h_.1)); have i5 := zA (Kd.R_lower (Kd.R_new' (Kd.R_new' (Kd.R_new' (Kd.R_new' a4 (Kd.R_lt (zR b0.out))) (Kd.R_lt (zR a9.out))) (Kd.R_lt (zR a7.out))) (Kd.R_lt (zR g6.out))) (below_size (zW HB.out))); replace b0 := zA (Kd.R_elder' (zR b0.out) (Kd.R_base a4) hb); replace a9 := zA (Kd.R_elder' (zR a9.out) (Kd.R_base a4) hb); replace a7 := zA (Kd.R_elder' (zR a7.out) (Kd.R_base a4) hb); replace g6 := zA (Kd.R_elder' (zR g6.out) (Kd.R_base a4) hb); have i6 := zA (Kd.R_lower (Kd.R_new' (Kd.R_new' f9 (Kd.R_lt (zR b2.out))) (Kd.R_lt (zR a8.out))) (below_size (zW HB.out))); replace b2 := zA (Kd.R_elder' (zR b2.out) (Kd.R_base f9) hb); replace a8 := zA (Kd.R_elder' (zR a8.out) (Kd.R_base f9) hb); replace a0 := zb a0 hb; replace a2 := zb a2 hb; replace a5 := zb a5 hb; replace a3 := zb a3 hb; replace HB := zh HB hb
                           (try clear hb a4 f9)
                           refine hK.out _ _ zO fun hHeld => ?_
                           clear hK K; refine zn ?_; refine zp 6 101 ?_; refine zp 7 108 ?_; refine zp 8 109 ?_
                           refine zo 9 (some 17) fun K hK => ?_
                           refine box_step ?hg (N := 17) ?hd (cs := #[.string (⟨#[]⟩ : ByteArray), .int .i64 0, .int .i64 0, .int .i64 0, .slice none 0 0, .slice none 0 0]) (t := 44) ?hr ?_; (case hd => rfl); (case hg => rfl); (case hr => first | (go_simp; done) | (go_simp; rfl))
                           intro d7 hg Q2 hbox hb
                           replace b0 := zr b0 hb; replace b2 := zr b2 hb; replace a9 := zr a9 hb; replace a7 := zr a7 hb; replace a8 := zr a8 hb; replace g2 := zA (Kd.S_below (Kd.S_elderB (by (with_reducible repeat (first | apply Kd.S_alloc | apply Kd.S_drewN | apply Kd.S_drew)); exact g2.out) d7 (Nat.le_of_eq hg.symm)) hb); replace g6 := zr g6 hb; replace i5 := zr i5 hb; replace i6 := zr i6 hb; have d4 := zA (hbox); have B4 := zi HB hg; have B5 := zi HB hg; replace HB := zh HB hb; have g5 := zA (zL hg (zK a0.out)); have l1 := zA (zJ hg (zK a0.out)); replace a0 := zb a0 hb; have l2 := zA (zL hg (zK a2.out)); have l3 := zA (zJ hg (zK a2.out)); replace a2 := zb a2 hb; have l4 := zA (zL hg (zK a5.out)); have l5 := zA (zJ hg (zK a5.out)); replace a5 := zb a5 hb; have k4 := zA (zL hg (zK a3.out)); have k5 := zA (zJ hg (zK a3.out)); replace a3 := zb a3 hb; clear hb hbox hg
                           refine hK.out _ _ zO fun hHeld => ?_
                           clear hK K; refine zn ?_
                           exact norm_ (by simp only [putAll, Act.put, zT]) (hCont (.slice Z5 k9.length Z6, .slice o1 k3.length o2, m0, n3, d7) _ ⟨hHeld, (by (with_reducible repeat (first | apply Kd.S_alloc | apply Kd.S_drewN | apply Kd.S_drew)); exact Kd.S_mono g2.out (fun _ hk => ⟨hk.1.1.1.2, ⟨hk.1.1.2, ⟨hk.1.2, ⟨hk.1.1.1.1.1.1.1.1.1.1.2, ⟨hk.1.1.1.1.1.1.1.1.1.2, ⟨hk.1.1.1.1.1.1.1.1.2, ⟨hk.1.1.1.1.1.1.1.2, ⟨hk.1.1.1.1.1.1.2, ⟨hk.1.1.1.1.1.2, ⟨hk.1.1.1.1.2, hk.2⟩⟩⟩⟩⟩⟩⟩⟩⟩⟩)), (zR (Kd.R_mono g6.out (fun _ hk => ⟨hk.2, ⟨hk.1.1.1.2, ⟨hk.1.1.2, hk.1.2⟩⟩⟩))), (zR (Kd.R_mono i5.out (fun _ hk => ⟨hk.2, ⟨hk.1.1.1.2, ⟨hk.1.1.2, hk.1.2⟩⟩⟩))), (zR (Kd.R_mono i6.out (fun _ hk => ⟨hk.1.2, hk.2⟩))), (zR (Kd.R_mono b0.out (fun _ hk => ⟨hk.1.2, ⟨hk.2, ⟨hk.1.1.1, hk.1.1.2⟩⟩⟩))), (zR (Kd.R_mono b2.out (fun _ hk => ⟨hk.2, hk.1⟩))), (zR (Kd.R_mono a9.out (fun _ hk => ⟨hk.1.2, ⟨hk.2, ⟨hk.1.1.1, hk.1.1.2⟩⟩⟩))), (zR (Kd.R_mono a7.out (fun _ hk => ⟨hk.1.2, ⟨hk.2, ⟨hk.1.1.1, hk.1.1.2⟩⟩⟩))), (zR (Kd.R_mono a8.out (fun _ hk => ⟨hk.2, hk.1⟩))), (zK a0.out), (zK a2.out), (zK a5.out), (zK a3.out), (zK d4.out), B4.out, B5.out, g5.out, l1.out, l2.out, l3.out, l4.out, l5.out, k4.out, k5.out, (zW HB.out)⟩)
                          ·skip
                           refine box_step ?hg (N := 17) ?hd (cs := #[.string (⟨#[]⟩ : ByteArray), .int .i64 0, .int .i64 0, .int .i64 0, .slice none 0 0, .slice none 0 0]) (t := 44) ?hr ?_; (case hd => rfl); (case hg => rfl); (case hr => first | (go_simp; done) | (go_simp; rfl))
                           intro d7 hg Z8 hbox hb
                           replace b0 := zr b0 hb; replace b2 := zr b2 hb; replace a9 := zr a9 hb; replace a7 := zr a7 hb; replace a8 := zr a8 hb; replace g2 := zA (Kd.S_below (Kd.S_elderB (by (with_reducible repeat (first | apply Kd.S_alloc | apply Kd.S_drewN | apply Kd.S_drew)); exact g2.out) d7 (Nat.le_of_eq hg.symm)) hb); replace g6 := zr g6 hb; have d4 := zA (hbox); have B4 := zi HB hg; have B5 := zi HB hg; replace HB := zh HB hb; have g5 := zA (zL hg (zK a0.out)); have l1 := zA (zJ hg (zK a0.out)); replace a0 := zb a0 hb; have l2 := zA (zL hg (zK a2.out)); have l3 := zA (zJ hg (zK a2.out)); replace a2 := zb a2 hb; have l4 := zA (zL hg (zK a5.out)); have l5 := zA (zJ hg (zK a5.out)); replace a5 := zb a5 hb; have k4 := zA (zL hg (zK a3.out)); have k5 := zA (zJ hg (zK a3.out)); replace a3 := zb a3 hb; clear hb hbox hg; obtain ⟨o1, o2, o3⟩ := Kd.S_slice g2.out
                           (first | subst o3 | (injection o3 with f1_ f2_ f3_; have g3 := f1_.symm; have g4 := f3_.symm; clear f1_ f2_ f3_; subst g3; subst g4))
                           obtain ⟨B6, B7, B8⟩ := Kd.R_slice g6.out
                           (first | subst B8 | (injection B8 with f1_ f2_ f3_; have g3 := f1_.symm; have g4 := f3_.symm; clear f1_ f2_ f3_; subst g3; subst g4))
                           refine hK.out _ _ zO fun hHeld => ?_
                           clear hK K; refine zn ?_
                           refine zo 5 (some 107) fun K hK => ?_
                           refine goes_ Try.func19 (by kernel_rfl) rfl #[.slice o1 k9.length o2, .string a1, .agg #[.int .i64 n0, .int .i64 n1, .int .i64 n2, .slice B6 k3.length B7]] (by rfl) rfl rfl zM ?_
                           with_reducible refine (impl_EntryOf.calls m9 _ _ k9 a1 n0 n1 n2 _ _ k3 h8 h9 i0 i4 h2 h4 B3 _ ?s1 ?s2 ?s3 ?s4 M7.out).mono ?_
                           (case s1 => repeat (first | exact (Kd.S_reads' g2.out).2.2 | (with_reducible refine Kd.C_alloc ?_ _) | (with_reducible refine Kd.C_drewN ?_ _) | (with_reducible refine Kd.C_drew ?_)))
                           (case s2 => exact (Kd.S_reads' g2.out).2.1)
                           (case s3 => repeat (first | exact (Kd.R_reads' g6.out).2.2 | (with_reducible refine Kd.C_alloc ?_ _) | (with_reducible refine Kd.C_drewN ?_ _) | (with_reducible refine Kd.C_drew ?_)))
                           (case s4 => exact (Kd.R_reads' g6.out).2.1)
                           rintro e Q2 ⟨m0, n3, rfl, a4, f9, hb⟩
                           refine ⟨_, rfl, ?_⟩
                           replace g2 := zA (Kd.S_mono (Kd.S_told (Kd.S_told (Kd.S_old (by (with_reducible repeat (first | apply Kd.S_alloc | apply Kd.S_drewN | apply Kd.S_drew)); exact g2.out) hb) (Kd.R_base a4)) (Kd.R_base f9)) (fun _ h_ => h_.1)); have i5 := zA (Kd.R_lower (Kd.R_new' (Kd.R_new' (Kd.R_new' (Kd.R_new' a4 (Kd.R_lt (zR b0.out))) (Kd.R_lt (zR a9.out))) (Kd.R_lt (zR a7.out))) (Kd.R_lt (zR g6.out))) (below_size (zW HB.out))); replace b0 := zA (Kd.R_elder' (zR b0.out) (Kd.R_base a4) hb); replace a9 := zA (Kd.R_elder' (zR a9.out) (Kd.R_base a4) hb); replace a7 := zA (Kd.R_elder' (zR a7.out) (Kd.R_base a4) hb); replace g6 := zA (Kd.R_elder' (zR g6.out) (Kd.R_base a4) hb); have i6 := zA (Kd.R_lower (Kd.R_new' (Kd.R_new' f9 (Kd.R_lt (zR b2.out))) (Kd.R_lt (zR a8.out))) (below_size (zW HB.out))); replace b2 := zA (Kd.R_elder' (zR b2.out) (Kd.R_base f9) hb); replace a8 := zA (Kd.R_elder' (zR a8.out) (Kd.R_base f9) hb); replace a0 := zb a0 hb; replace a2 := zb a2 hb; replace a5 := zb a5 hb; replace a3 := zb a3 hb; replace d4 := zb d4 hb; replace HB := zh HB hb
                           (try clear hb a4 f9)
                           refine hK.out _ _ zO fun hHeld => ?_
                           clear hK K; refine zn ?_; refine zp 6 101 ?_; refine zp 7 108 ?_; refine zp 8 109 ?_
                           exact norm_ (by simp only [putAll, Act.put, zT]) (hCont (.slice o1 k9.length o2, .slice B6 k3.length B7, m0, n3, d7) _ ⟨hHeld, (by (with_reducible repeat (first | apply Kd.S_alloc | apply Kd.S_drewN | apply Kd.S_drew)); exact Kd.S_mono g2.out (fun _ hk => ⟨hk.1.1.1.2, ⟨hk.1.2, ⟨hk.2, ⟨hk.1.1.1.1.1.1.1.1.1.1.2, ⟨hk.1.1.1.1.1.1.1.1.1.2, ⟨hk.1.1.1.1.1.1.1.1.2, ⟨hk.1.1.1.1.1.1.1.2, ⟨hk.1.1.1.1.1.1.2, ⟨hk.1.1.1.1.1.2, ⟨hk.1.1.1.1.2, hk.1.1.2⟩⟩⟩⟩⟩⟩⟩⟩⟩⟩)), (zR (Kd.R_mono g6.out (fun _ hk => ⟨hk.2, ⟨hk.1.1.1.2, ⟨hk.1.1.2, hk.1.2⟩⟩⟩))), (zR (Kd.R_mono i5.out (fun _ hk => ⟨hk.2, ⟨hk.1.1.1.2, ⟨hk.1.1.2, hk.1.2⟩⟩⟩))), (zR (Kd.R_mono i6.out (fun _ hk => ⟨hk.1.2, hk.2⟩))), (zR (Kd.R_mono b0.out (fun _ hk => ⟨hk.1.2, ⟨hk.2, ⟨hk.1.1.1, hk.1.1.2⟩⟩⟩))), (zR (Kd.R_mono b2.out (fun _ hk => ⟨hk.2, hk.1⟩))), (zR (Kd.R_mono a9.out (fun _ hk => ⟨hk.1.2, ⟨hk.2, ⟨hk.1.1.1, hk.1.1.2⟩⟩⟩))), (zR (Kd.R_mono a7.out (fun _ hk => ⟨hk.1.2, ⟨hk.2, ⟨hk.1.1.1, hk.1.1.2⟩⟩⟩))), (zR (Kd.R_mono a8.out (fun _ hk => ⟨hk.2, hk.1⟩))), (zK a0.out), (zK a2.out), (zK a5.out), (zK a3.out), (zK d4.out), B4.out, B5.out, g5.out, l1.out, l2.out, l3.out, l4.out, l5.out, k4.out, k5.out, (zW HB.out)⟩)
                         ·skip
                          refine box_step ?hg (N := 17) ?hd (cs := #[.string (⟨#[]⟩ : ByteArray), .int .i64 0, .int .i64 0, .int .i64 0, .slice none 0 0, .slice none 0 0]) (t := 44) ?hr ?_; (case hd => rfl); (case hg => rfl); (case hr => first | (go_simp; done) | (go_simp; rfl))
                          intro d7 hg Z4 hbox hb
                          replace b0 := zr b0 hb; replace b2 := zr b2 hb; replace a9 := zr a9 hb; replace a7 := zr a7 hb; replace a8 := zr a8 hb; replace g2 := zA (Kd.S_below (Kd.S_elderB (by (with_reducible repeat (first | apply Kd.S_alloc | apply Kd.S_drewN | apply Kd.S_drew)); exact g2.out) d7 (Nat.le_of_eq hg.symm)) hb); have d4 := zA (hbox); have B4 := zi HB hg; have B5 := zi HB hg; replace HB := zh HB hb; have g5 := zA (zL hg (zK a0.out)); have l1 := zA (zJ hg (zK a0.out)); replace a0 := zb a0 hb; have l2 := zA (zL hg (zK a2.out)); have l3 := zA (zJ hg (zK a2.out)); replace a2 := zb a2 hb; have l4 := zA (zL hg (zK a5.out)); have l5 := zA (zJ hg (zK a5.out)); replace a5 := zb a5 hb; have k4 := zA (zL hg (zK a3.out)); have k5 := zA (zJ hg (zK a3.out)); replace a3 := zb a3 hb; clear hb hbox hg
                          refine hK.out _ _ zO fun hHeld => ?_
                          clear hK K; refine zn ?_
                          refine zo 4 (some 106) fun K hK => ?_
                          refine goes_ Try.func18 (by kernel_rfl) rfl #[.agg #[.int .i64 e1, .int .i64 e2, .int .i64 e3, .slice g7 d9.length g8]] (by rfl) rfl rfl zM ?_
                          with_reducible refine (laws_toVer.calls m9 e1 e2 e3 _ _ d9 n0 n1 n2 k3 _ ?s1 ?s2 P9.out).mono ?_
                          (case s1 => exact zC (Kd.C_below o6.out HB.out))
                          (case s2 => exact o7.out)
                          rintro e Z8 ⟨m3, rfl, a4, hb⟩
                          refine ⟨_, rfl, ?_⟩
                          replace b2 := zr b2 hb; replace a8 := zr a8 hb; replace g2 := zA (Kd.S_elder' (by (with_reducible repeat (first | apply Kd.S_alloc | apply Kd.S_drewN | apply Kd.S_drew)); exact g2.out) (Kd.R_base a4) hb); have g6 := zA (Kd.R_lower (Kd.R_new' (Kd.R_new' (Kd.R_new' a4 (Kd.R_lt (zR b0.out))) (Kd.R_lt (zR a9.out))) (Kd.R_lt (zR a7.out))) (below_size (zW HB.out))); replace b0 := zA (Kd.R_elder' (zR b0.out) (Kd.R_base a4) hb); replace a9 := zA (Kd.R_elder' (zR a9.out) (Kd.R_base a4) hb); replace a7 := zA (Kd.R_elder' (zR a7.out) (Kd.R_base a4) hb); replace a0 := zb a0 hb; replace a2 := zb a2 hb; replace a5 := zb a5 hb; replace a3 := zb a3 hb; replace d4 := zb d4 hb; replace HB := zh HB hb
                          (try clear hb a4)
                          obtain ⟨o1, o2, o3⟩ := Kd.S_slice g2.out
                          (first | subst o3 | (injection o3 with f1_ f2_ f3_; have g3 := f1_.symm; have g4 := f3_.symm; clear f1_ f2_ f3_; subst g3; subst g4))
                          obtain ⟨B6, B7, B8⟩ := Kd.R_slice g6.out
                          (first | subst B8 | (injection B8 with f1_ f2_ f3_; have g3 := f1_.symm; have g4 := f3_.symm; clear f1_ f2_ f3_; subst g3; subst g4))
                          refine hK.out _ _ zO fun hHeld => ?_
                          clear hK K; refine zn ?_
                          refine zo 5 (some 107) fun K hK => ?_
                          refine goes_ Try.func19 (by kernel_rfl) rfl #[.slice o1 k9.length o2, .string a1, .agg #[.int .i64 n0, .int .i64 n1, .int .i64 n2, .slice B6 k3.length B7]] (by rfl) rfl rfl zM ?_
                          with_reducible refine (impl_EntryOf.calls m9 _ _ k9 a1 n0 n1 n2 _ _ k3 h8 h9 i0 i4 h2 h4 B3 _ ?s1 ?s2 ?s3 ?s4 M7.out).mono ?_
                          (case s1 => repeat (first | exact (Kd.S_reads' g2.out).2.2 | (with_reducible refine Kd.C_alloc ?_ _) | (with_reducible refine Kd.C_drewN ?_ _) | (with_reducible refine Kd.C_drew ?_)))
                          (case s2 => exact (Kd.S_reads' g2.out).2.1)
                          (case s3 => repeat (first | exact (Kd.R_reads' g6.out).2.2 | (with_reducible refine Kd.C_alloc ?_ _) | (with_reducible refine Kd.C_drewN ?_ _) | (with_reducible refine Kd.C_drew ?_)))
                          (case s4 => exact (Kd.R_reads' g6.out).2.1)
                          rintro e Q2 ⟨m0, n3, rfl, a4, f9, hb⟩
                          refine ⟨_, rfl, ?_⟩
                          replace g2 := zA (Kd.S_mono (Kd.S_told (Kd.S_told (Kd.S_old (by (with_reducible repeat (first | apply Kd.S_alloc | apply Kd.S_drewN | apply Kd.S_drew)); exact g2.out) hb) (Kd.R_base a4)) (Kd.R_base f9)) (fun _ h_ => h_.1)); have i5 := zA (Kd.R_lower (Kd.R_new' (Kd.R_new' (Kd.R_new' (Kd.R_new' a4 (Kd.R_lt (zR b0.out))) (Kd.R_lt (zR a9.out))) (Kd.R_lt (zR a7.out))) (Kd.R_lt (zR g6.out))) (below_size (zW HB.out))); replace b0 := zA (Kd.R_elder' (zR b0.out) (Kd.R_base a4) hb); replace a9 := zA (Kd.R_elder' (zR a9.out) (Kd.R_base a4) hb); replace a7 := zA (Kd.R_elder' (zR a7.out) (Kd.R_base a4) hb); replace g6 := zA (Kd.R_elder' (zR g6.out) (Kd.R_base a4) hb); have i6 := zA (Kd.R_lower (Kd.R_new' (Kd.R_new' f9 (Kd.R_lt (zR b2.out))) (Kd.R_lt (zR a8.out))) (below_size (zW HB.out))); replace b2 := zA (Kd.R_elder' (zR b2.out) (Kd.R_base f9) hb); replace a8 := zA (Kd.R_elder' (zR a8.out) (Kd.R_base f9) hb); replace a0 := zb a0 hb; replace a2 := zb a2 hb; replace a5 := zb a5 hb; replace a3 := zb a3 hb; replace d4 := zb d4 hb; replace HB := zh HB hb
                          (try clear hb a4 f9)
                          refine hK.out _ _ zO fun hHeld => ?_
                          clear hK K; refine zn ?_; refine zp 6 101 ?_; refine zp 7 108 ?_; refine zp 8 109 ?_
                          exact norm_ (by simp only [putAll, Act.put, zT]) (hCont (.slice o1 k9.length o2, .slice B6 k3.length B7, m0, n3, d7) _ ⟨hHeld, (by (with_reducible repeat (first | apply Kd.S_alloc | apply Kd.S_drewN | apply Kd.S_drew)); exact Kd.S_mono g2.out (fun _ hk => ⟨hk.1.1.2, ⟨hk.1.2, ⟨hk.2, ⟨hk.1.1.1.1.1.1.1.1.1.1.2, ⟨hk.1.1.1.1.1.1.1.1.1.2, ⟨hk.1.1.1.1.1.1.1.1.2, ⟨hk.1.1.1.1.1.1.1.2, ⟨hk.1.1.1.1.1.1.2, ⟨hk.1.1.1.1.1.2, ⟨hk.1.1.1.1.2, hk.1.1.1.2⟩⟩⟩⟩⟩⟩⟩⟩⟩⟩)), (zR (Kd.R_mono g6.out (fun _ hk => ⟨hk.2, ⟨hk.1.1.1.2, ⟨hk.1.1.2, hk.1.2⟩⟩⟩))), (zR (Kd.R_mono i5.out (fun _ hk => ⟨hk.2, ⟨hk.1.1.1.2, ⟨hk.1.1.2, hk.1.2⟩⟩⟩))), (zR (Kd.R_mono i6.out (fun _ hk => ⟨hk.1.2, hk.2⟩))), (zR (Kd.R_mono b0.out (fun _ hk => ⟨hk.1.2, ⟨hk.2, ⟨hk.1.1.1, hk.1.1.2⟩⟩⟩))), (zR (Kd.R_mono b2.out (fun _ hk => ⟨hk.2, hk.1⟩))), (zR (Kd.R_mono a9.out (fun _ hk => ⟨hk.1.2, ⟨hk.2, ⟨hk.1.1.1, hk.1.1.2⟩⟩⟩))), (zR (Kd.R_mono a7.out (fun _ hk => ⟨hk.1.2, ⟨hk.2, ⟨hk.1.1.1, hk.1.1.2⟩⟩⟩))), (zR (Kd.R_mono a8.out (fun _ hk => ⟨hk.2, hk.1⟩))), (zK a0.out), (zK a2.out), (zK a5.out), (zK a3.out), (zK d4.out), B4.out, B5.out, g5.out, l1.out, l2.out, l3.out, l4.out, l5.out, k4.out, k5.out, (zW HB.out)⟩)
                        ·skip
                         refine box_step ?hg (N := 17) ?hd (cs := #[.string (⟨#[]⟩ : ByteArray), .int .i64 0, .int .i64 0, .int .i64 0, .slice none 0 0, .slice none 0 0]) (t := 44) ?hr ?_; (case hd => rfl); (case hg => rfl); (case hr => first | (go_simp; done) | (go_simp; rfl))
                         intro d7 hg a35 hbox hb
                         replace b0 := zr b0 hb; replace b2 := zr b2 hb; replace a9 := zr a9 hb; replace a7 := zr a7 hb; replace a8 := zr a8 hb; have d4 := zA (hbox); have B4 := zi HB hg; have B5 := zi HB hg; replace HB := zh HB hb; have g5 := zA (zL hg (zK a0.out)); have l1 := zA (zJ hg (zK a0.out)); replace a0 := zb a0 hb; have l2 := zA (zL hg (zK a2.out)); have l3 := zA (zJ hg (zK a2.out)); replace a2 := zb a2 hb; have l4 := zA (zL hg (zK a5.out)); have l5 := zA (zJ hg (zK a5.out)); replace a5 := zb a5 hb; have k4 := zA (zL hg (zK a3.out)); have k5 := zA (zJ hg (zK a3.out)); replace a3 := zb a3 hb; clear hb hbox hg
                         refine hK.out _ _ zO fun hHeld => ?_
                         clear hK K; refine zn ?_
                         refine zo 1 (some 103) fun K hK => ?_
                         refine goes_ Try.func17 (by kernel_rfl) rfl #[.slice A0 l0.length c0] (by rfl) rfl rfl zM ?_
                         with_reducible refine (laws_toEntryS.calls m9 _ _ l0 k9 _ ?s1 ?s2 Z1.out).mono ?_
                         (case s1 => exact zC (Kd.C_below B9.out HB.out))
                         (case s2 => exact C0.out)
                         rintro e Z4 ⟨Q1, rfl, a4, hb⟩
                         refine ⟨_, rfl, ?_⟩
                         have g2 := zA (Kd.S_lower (Kd.S_newB (Kd.S_newB (Kd.S_newB (Kd.S_new' (Kd.S_new' (Kd.S_new' (Kd.S_new' (Kd.S_new' a4 (Kd.R_lt (zR b0.out))) (Kd.R_lt (zR b2.out))) (Kd.R_lt (zR a9.out))) (Kd.R_lt (zR a7.out))) (Kd.R_lt (zR a8.out))) (g := b6) (o := .cells #[.string e7, .int .i64 f0, .int .i64 f4, .int .i64 f7, .slice b8 a6.length b5, .slice d6 b1.length d3] 44 (0, 0)) (zK a2.out)) (g := d8) (o := .cells #[.string e8, .int .i64 f1, .int .i64 f5, .int .i64 f8, .slice b4 f3.length b3, .slice d1 g1.length d0] 44 (0, 0)) (zK a3.out)) (g := d7) (o := .cells #[.string (⟨#[]⟩ : ByteArray), .int .i64 0, .int .i64 0, .int .i64 0, .slice none 0 0, .slice none 0 0] 44 (0, 0)) (zK d4.out)) (below_size (zW HB.out))); replace b0 := zr b0 hb; replace b2 := zr b2 hb; replace a9 := zr a9 hb; replace a7 := zr a7 hb; replace a8 := zr a8 hb; replace a0 := zb a0 hb; replace a2 := zb a2 hb; replace a5 := zb a5 hb; replace a3 := zb a3 hb; replace d4 := zb d4 hb; replace HB := zh HB hb
                         (try clear hb a4)
                         refine hK.out _ _ zO fun hHeld => ?_
                         clear hK K; refine zn ?_
                         refine zo 4 (some 106) fun K hK => ?_
                         refine goes_ Try.func18 (by kernel_rfl) rfl #[.agg #[.int .i64 e1, .int .i64 e2, .int .i64 e3, .slice g7 d9.length g8]] (by rfl) rfl rfl zM ?_
                         with_reducible refine (laws_toVer.calls m9 e1 e2 e3 _ _ d9 n0 n1 n2 k3 _ ?s1 ?s2 P9.out).mono ?_
                         (case s1 => exact zC (Kd.C_below o6.out HB.out))
                         (case s2 => exact o7.out)
                         rintro e Z8 ⟨m3, rfl, a4, hb⟩
                         refine ⟨_, rfl, ?_⟩
                         replace b2 := zr b2 hb; replace a8 := zr a8 hb; replace g2 := zA (Kd.S_elder' (by (with_reducible repeat (first | apply Kd.S_alloc | apply Kd.S_drewN | apply Kd.S_drew)); exact g2.out) (Kd.R_base a4) hb); have g6 := zA (Kd.R_lower (Kd.R_new' (Kd.R_new' (Kd.R_new' a4 (Kd.R_lt (zR b0.out))) (Kd.R_lt (zR a9.out))) (Kd.R_lt (zR a7.out))) (below_size (zW HB.out))); replace b0 := zA (Kd.R_elder' (zR b0.out) (Kd.R_base a4) hb); replace a9 := zA (Kd.R_elder' (zR a9.out) (Kd.R_base a4) hb); replace a7 := zA (Kd.R_elder' (zR a7.out) (Kd.R_base a4) hb); replace a0 := zb a0 hb; replace a2 := zb a2 hb; replace a5 := zb a5 hb; replace a3 := zb a3 hb; replace d4 := zb d4 hb; replace HB := zh HB hb
                         (try clear hb a4)
                         obtain ⟨o1, o2, o3⟩ := Kd.S_slice g2.out
                         (first | subst o3 | (injection o3 with f1_ f2_ f3_; have g3 := f1_.symm; have g4 := f3_.symm; clear f1_ f2_ f3_; subst g3; subst g4))
                         obtain ⟨B6, B7, B8⟩ := Kd.R_slice g6.out
                         (first | subst B8 | (injection B8 with f1_ f2_ f3_; have g3 := f1_.symm; have g4 := f3_.symm; clear f1_ f2_ f3_; subst g3; subst g4))
                         refine hK.out _ _ zO fun hHeld => ?_
                         clear hK K; refine zn ?_
                         refine zo 5 (some 107) fun K hK => ?_
                         refine goes_ Try.func19 (by kernel_rfl) rfl #[.slice o1 k9.length o2, .string a1, .agg #[.int .i64 n0, .int .i64 n1, .int .i64 n2, .slice B6 k3.length B7]] (by rfl) rfl rfl zM ?_
                         with_reducible refine (impl_EntryOf.calls m9 _ _ k9 a1 n0 n1 n2 _ _ k3 h8 h9 i0 i4 h2 h4 B3 _ ?s1 ?s2 ?s3 ?s4 M7.out).mono ?_
                         (case s1 => repeat (first | exact (Kd.S_reads' g2.out).2.2 | (with_reducible refine Kd.C_alloc ?_ _) | (with_reducible refine Kd.C_drewN ?_ _) | (with_reducible refine Kd.C_drew ?_)))
                         (case s2 => exact (Kd.S_reads' g2.out).2.1)
                         (case s3 => repeat (first | exact (Kd.R_reads' g6.out).2.2 | (with_reducible refine Kd.C_alloc ?_ _) | (with_reducible refine Kd.C_drewN ?_ _) | (with_reducible refine Kd.C_drew ?_)))
                         (case s4 => exact (Kd.R_reads' g6.out).2.1)
                         rintro e Q2 ⟨m0, n3, rfl, a4, f9, hb⟩
                         refine ⟨_, rfl, ?_⟩
                         replace g2 := zA (Kd.S_mono (Kd.S_told (Kd.S_told (Kd.S_old (by (with_reducible repeat (first | apply Kd.S_alloc | apply Kd.S_drewN | apply Kd.S_drew)); exact g2.out) hb) (Kd.R_base a4)) (Kd.R_base f9)) (fun _ h_ => h_.1)); have i5 := zA (Kd.R_lower (Kd.R_new' (Kd.R_new' (Kd.R_new' (Kd.R_new' a4 (Kd.R_lt (zR b0.out))) (Kd.R_lt (zR a9.out))) (Kd.R_lt (zR a7.out))) (Kd.R_lt (zR g6.out))) (below_size (zW HB.out))); replace b0 := zA (Kd.R_elder' (zR b0.out) (Kd.R_base a4) hb); replace a9 := zA (Kd.R_elder' (zR a9.out) (Kd.R_base a4) hb); replace a7 := zA (Kd.R_elder' (zR a7.out) (Kd.R_base a4) hb); replace g6 := zA (Kd.R_elder' (zR g6.out) (Kd.R_base a4) hb); have i6 := zA (Kd.R_lower (Kd.R_new' (Kd.R_new' f9 (Kd.R_lt (zR b2.out))) (Kd.R_lt (zR a8.out))) (below_size (zW HB.out))); replace b2 := zA (Kd.R_elder' (zR b2.out) (Kd.R_base f9) hb); replace a8 := zA (Kd.R_elder' (zR a8.out) (Kd.R_base f9) hb); replace a0 := zb a0 hb; replace a2 := zb a2 hb; replace a5 := zb a5 hb; replace a3 := zb a3 hb; replace d4 := zb d4 hb; replace HB := zh HB hb
                         (try clear hb a4 f9)
                         refine hK.out _ _ zO fun hHeld => ?_
                         clear hK K; refine zn ?_; refine zp 6 101 ?_; refine zp 7 108 ?_; refine zp 8 109 ?_
                         exact norm_ (by simp only [putAll, Act.put, zT]) (hCont (.slice o1 k9.length o2, .slice B6 k3.length B7, m0, n3, d7) _ ⟨hHeld, (by (with_reducible repeat (first | apply Kd.S_alloc | apply Kd.S_drewN | apply Kd.S_drew)); exact Kd.S_mono g2.out (fun _ hk => ⟨hk.1.1.2, ⟨hk.1.2, ⟨hk.2, ⟨hk.1.1.1.1.1.1.1.1.1.1.2, ⟨hk.1.1.1.1.1.1.1.1.1.2, ⟨hk.1.1.1.1.1.1.1.1.2, ⟨hk.1.1.1.1.1.1.1.2, ⟨hk.1.1.1.1.1.1.2, ⟨hk.1.1.1.1.1.2, ⟨hk.1.1.1.1.2, hk.1.1.1.2⟩⟩⟩⟩⟩⟩⟩⟩⟩⟩)), (zR (Kd.R_mono g6.out (fun _ hk => ⟨hk.2, ⟨hk.1.1.1.2, ⟨hk.1.1.2, hk.1.2⟩⟩⟩))), (zR (Kd.R_mono i5.out (fun _ hk => ⟨hk.2, ⟨hk.1.1.1.2, ⟨hk.1.1.2, hk.1.2⟩⟩⟩))), (zR (Kd.R_mono i6.out (fun _ hk => ⟨hk.1.2, hk.2⟩))), (zR (Kd.R_mono b0.out (fun _ hk => ⟨hk.1.2, ⟨hk.2, ⟨hk.1.1.1, hk.1.1.2⟩⟩⟩))), (zR (Kd.R_mono b2.out (fun _ hk => ⟨hk.2, hk.1⟩))), (zR (Kd.R_mono a9.out (fun _ hk => ⟨hk.1.2, ⟨hk.2, ⟨hk.1.1.1, hk.1.1.2⟩⟩⟩))), (zR (Kd.R_mono a7.out (fun _ hk => ⟨hk.1.2, ⟨hk.2, ⟨hk.1.1.1, hk.1.1.2⟩⟩⟩))), (zR (Kd.R_mono a8.out (fun _ hk => ⟨hk.2, hk.1⟩))), (zK a0.out), (zK a2.out), (zK a5.out), (zK a3.out), (zK d4.out), B4.out, B5.out, g5.out, l1.out, l2.out, l3.out, l4.out, l5.out, k4.out, k5.out, (zW HB.out)⟩)
                       rintro ⟨Q1, m3, m0, n3, d7⟩ i8 ⟨hS_, C7, C8, C9, D0, D1, D2, D3, D4, D5, D6, D7, Z9, a00, a01, a02, a03, a04, a05, a06, a07, a08, a09, a0a, a0b, a0c⟩
                       have g2 : Aside0 (Kd.S k44 44 i8 w.heap.size (fun k_ => some k_ ≠ (m3 : Value).ownBlock ∧ some k_ ≠ (m0 : Value).ownBlock ∧ some k_ ≠ (n3 : Value).ownBlock ∧ some k_ ≠ (.slice b8 a6.length b5 : Value).ownBlock ∧ some k_ ≠ (.slice d6 b1.length d3 : Value).ownBlock ∧ some k_ ≠ (.slice b9 f6.length b7 : Value).ownBlock ∧ some k_ ≠ (.slice b4 f3.length b3 : Value).ownBlock ∧ some k_ ≠ (.slice d1 g1.length d0 : Value).ownBlock ∧ k_ ≠ b6 ∧ k_ ≠ d8 ∧ k_ ≠ d7) Q1 k9) := ⟨C7⟩; have g6 : Aside0 (Kd.R Kd.string 9 i8 w.heap.size (fun k_ => some k_ ≠ (m0 : Value).ownBlock ∧ some k_ ≠ (.slice b8 a6.length b5 : Value).ownBlock ∧ some k_ ≠ (.slice b9 f6.length b7 : Value).ownBlock ∧ some k_ ≠ (.slice b4 f3.length b3 : Value).ownBlock) m3 k3) := ⟨C8⟩; have i5 : Aside0 (Kd.R Kd.string 9 i8 w.heap.size (fun k_ => some k_ ≠ (m3 : Value).ownBlock ∧ some k_ ≠ (.slice b8 a6.length b5 : Value).ownBlock ∧ some k_ ≠ (.slice b9 f6.length b7 : Value).ownBlock ∧ some k_ ≠ (.slice b4 f3.length b3 : Value).ownBlock) m0 h2) := ⟨C9⟩; have i6 : Aside0 (Kd.R k94 94 i8 w.heap.size (fun k_ => some k_ ≠ (.slice d6 b1.length d3 : Value).ownBlock ∧ some k_ ≠ (.slice d1 g1.length d0 : Value).ownBlock) n3 h4) := ⟨D0⟩; replace b0 : Aside0 (Kd.R Kd.string 9 i8 w.heap.size (fun k_ => some k_ ≠ (m3 : Value).ownBlock ∧ some k_ ≠ (m0 : Value).ownBlock ∧ some k_ ≠ (.slice b9 f6.length b7 : Value).ownBlock ∧ some k_ ≠ (.slice b4 f3.length b3 : Value).ownBlock) (.slice b8 a6.length b5) a6) := ⟨D1⟩; replace b2 : Aside0 (Kd.R k94 94 i8 w.heap.size (fun k_ => some k_ ≠ (n3 : Value).ownBlock ∧ some k_ ≠ (.slice d1 g1.length d0 : Value).ownBlock) (.slice d6 b1.length d3) b1) := ⟨D2⟩; replace a9 : Aside0 (Kd.R Kd.string 9 i8 w.heap.size (fun k_ => some k_ ≠ (m3 : Value).ownBlock ∧ some k_ ≠ (m0 : Value).ownBlock ∧ some k_ ≠ (.slice b8 a6.length b5 : Value).ownBlock ∧ some k_ ≠ (.slice b4 f3.length b3 : Value).ownBlock) (.slice b9 f6.length b7) f6) := ⟨D3⟩; replace a7 : Aside0 (Kd.R Kd.string 9 i8 w.heap.size (fun k_ => some k_ ≠ (m3 : Value).ownBlock ∧ some k_ ≠ (m0 : Value).ownBlock ∧ some k_ ≠ (.slice b8 a6.length b5 : Value).ownBlock ∧ some k_ ≠ (.slice b9 f6.length b7 : Value).ownBlock) (.slice b4 f3.length b3) f3) := ⟨D4⟩; replace a8 : Aside0 (Kd.R k94 94 i8 w.heap.size (fun k_ => some k_ ≠ (n3 : Value).ownBlock ∧ some k_ ≠ (.slice d6 b1.length d3 : Value).ownBlock) (.slice d1 g1.length d0) g1) := ⟨D5⟩; replace a0 : Aside0 (i8.heap[e6]? = some (.cells #[.int .i64 e1, .int .i64 e2, .int .i64 e3, .slice g7 d9.length g8] 38 (0, 0))) := ⟨D6⟩; replace a2 : Aside0 (i8.heap[b6]? = some (.cells #[.string e7, .int .i64 f0, .int .i64 f4, .int .i64 f7, .slice b8 a6.length b5, .slice d6 b1.length d3] 44 (0, 0))) := ⟨D7⟩; replace a5 : Aside0 (i8.heap[h1]? = some (.cells #[.int .i64 h5, .int .i64 h6, .int .i64 h7, .slice b9 f6.length b7] 41 (0, 0))) := ⟨Z9⟩; replace a3 : Aside0 (i8.heap[d8]? = some (.cells #[.string e8, .int .i64 f1, .int .i64 f5, .int .i64 f8, .slice b4 f3.length b3, .slice d1 g1.length d0] 44 (0, 0))) := ⟨a00⟩; have d4 : Aside0 (i8.heap[d7]? = some (.cells #[.string (⟨#[]⟩ : ByteArray), .int .i64 0, .int .i64 0, .int .i64 0, .slice none 0 0, .slice none 0 0] 44 (0, 0))) := ⟨a01⟩; have B4 : Aside0 (w.heap.size ≤ d7) := ⟨a02⟩; have B5 : Aside0 (w.heap.size ≤ d7) := ⟨a03⟩; have g5 : Aside0 (e6 ≠ d7) := ⟨a04⟩; have l1 : Aside0 (d7 ≠ e6) := ⟨a05⟩; have l2 : Aside0 (b6 ≠ d7) := ⟨a06⟩; have l3 : Aside0 (d7 ≠ b6) := ⟨a07⟩; have l4 : Aside0 (h1 ≠ d7) := ⟨a08⟩; have l5 : Aside0 (d7 ≠ h1) := ⟨a09⟩; have k4 : Aside0 (d8 ≠ d7) := ⟨a0a⟩; have k5 : Aside0 (d7 ≠ d8) := ⟨a0b⟩; replace HB : Aside0 (Below w.heap.size w i8) := ⟨a0c⟩; clear C7 C8 C9 D0 D1 D2 D3 D4 D5 D6 D7 Z9 a00 a01 a02 a03 a04 a05 a06 a07 a08 a09 a0a a0b a0c; have hHeld : i8.cell? ⟨e6, 0, none⟩ = some (.int .i64 e1) ∧ i8.cell? ⟨e6, 1, none⟩ = some (.int .i64 e2) ∧ i8.cell? ⟨e6, 2, none⟩ = some (.int .i64 e3) ∧ i8.cell? ⟨e6, 3, none⟩ = some (.slice g7 d9.length g8) := hS_; obtain ⟨i7, i1, a0d⟩ := Kd.R_slice i5.out
                       (first | subst a0d | (injection a0d with f1_ f2_ f3_; have g3 := f1_.symm; have g4 := f3_.symm; clear f1_ f2_ f3_; subst g3; subst g4))
                       obtain ⟨l6, k0, a0e⟩ := Kd.R_slice i6.out
                       (first | subst a0e | (injection a0e with f1_ f2_ f3_; have g3 := f1_.symm; have g4 := f3_.symm; clear f1_ f2_ f3_; subst g3; subst g4))
                       refine norm_ (a' := ?_) ?_ ?_
                       rotate_left
                       ·simp only [putAll, Act.put, zT]
                        rfl
                       refine zo 10 none fun K hK => ?_
                       have a71 := zc0 d4.out; have a72 := zF d4.out 0; have a73 := g5.out; have a74 := l2.out; have a75 := l4.out; have a76 := k4.out; have a77 := l1.out; have a78 := l3.out; have a79 := l5.out; have a7a := k5.out; have a7b := zc1 d4.out; have a7c := zF d4.out 1; have a7d := g5.out; have a7e := l2.out; have a7f := l4.out; have a7g := k4.out; have a7h := l1.out; have a7i := l3.out; have a7j := l5.out; have a7k := k5.out; have a7l := zc2 d4.out; have a7m := zF d4.out 2; have a7n := g5.out; have a7o := l2.out; have a7p := l4.out; have a7q := k4.out; have a7r := l1.out; have a7s := l3.out; have a7t := l5.out; have a7v := k5.out; have a7x := zc3 d4.out; have a7y := zF d4.out 3; have a7z := g5.out; have a80 := l2.out; have a81 := l4.out; have a82 := k4.out; have a83 := l1.out; have a84 := l3.out; have a85 := l5.out; have a86 := k5.out; have a87 := zc4 d4.out; have a88 := zF d4.out 4; have a89 := g5.out; have a8a := l2.out; have a8b := l4.out; have a8c := k4.out; have a8d := l1.out; have a8e := l3.out; have a8f := l5.out; have a8g := k5.out; have a8h := zc5 d4.out; have a8i := zF d4.out 5; have a8j := g5.out; have a8k := l2.out; have a8l := l4.out; have a8m := k4.out; have a8n := l1.out; have a8o := l3.out; have a8p := l5.out; have a8q := k5.out
                       refine skip_ (w1 := ?_) (by rfl) rfl ?_ ?_
                       rotate_left
                       ·go_simp
                        rfl
                       refine hK.out _ _ ⟨((cell_far (p := ⟨d7, _, none⟩) g5.out _).trans (((cell_far (p := ⟨d7, _, none⟩) g5.out _).trans (((cell_far (p := ⟨d7, _, none⟩) g5.out _).trans (((cell_far (p := ⟨d7, _, none⟩) g5.out _).trans (((cell_far (p := ⟨d7, _, none⟩) g5.out _).trans (((cell_far (p := ⟨d7, _, none⟩) g5.out _).trans (hHeld.1)))))))))))), ((cell_far (p := ⟨d7, _, none⟩) g5.out _).trans (((cell_far (p := ⟨d7, _, none⟩) g5.out _).trans (((cell_far (p := ⟨d7, _, none⟩) g5.out _).trans (((cell_far (p := ⟨d7, _, none⟩) g5.out _).trans (((cell_far (p := ⟨d7, _, none⟩) g5.out _).trans (((cell_far (p := ⟨d7, _, none⟩) g5.out _).trans (hHeld.2.1)))))))))))), ((cell_far (p := ⟨d7, _, none⟩) g5.out _).trans (((cell_far (p := ⟨d7, _, none⟩) g5.out _).trans (((cell_far (p := ⟨d7, _, none⟩) g5.out _).trans (((cell_far (p := ⟨d7, _, none⟩) g5.out _).trans (((cell_far (p := ⟨d7, _, none⟩) g5.out _).trans (((cell_far (p := ⟨d7, _, none⟩) g5.out _).trans (hHeld.2.2.1)))))))))))), ((cell_far (p := ⟨d7, _, none⟩) g5.out _).trans (((cell_far (p := ⟨d7, _, none⟩) g5.out _).trans (((cell_far (p := ⟨d7, _, none⟩) g5.out _).trans (((cell_far (p := ⟨d7, _, none⟩) g5.out _).trans (((cell_far (p := ⟨d7, _, none⟩) g5.out _).trans (((cell_far (p := ⟨d7, _, none⟩) g5.out _).trans (hHeld.2.2.2))))))))))))⟩ (fun hHeld => ?_)
                       clear hK K; refine zp 11 18 ?_
                       refine done_ (done_of HT_.out (by kernel_rfl)) ?_
                       go_upto_region 34 with (fail)
                       go_cut [118] (fun a36 wc => ∃ (kq : Nat) (Q3 : Bool), a36 = .bool Q3 ∧ Aside0 (laws_FnExactEntryOf.j11 kq E2 Q3 e8 f1 f5 f8 f3 g1 = some r) ∧ Aside0 (kq ≤ m9) ∧ Aside0 (Kd.R Kd.string 9 wc w.heap.size (fun k_ => some k_ ≠ ((.slice b9 f6.length b7) : Value).ownBlock ∧ some k_ ≠ ((.slice b4 f3.length b3) : Value).ownBlock ∧ some k_ ≠ ((.slice i7 h2.length i1) : Value).ownBlock) (.slice b8 a6.length b5) a6) ∧ Aside0 (Kd.R k94 94 wc w.heap.size (fun k_ => some k_ ≠ ((.slice d1 g1.length d0) : Value).ownBlock ∧ some k_ ≠ ((.slice l6 h4.length k0) : Value).ownBlock) (.slice d6 b1.length d3) b1) ∧ Aside0 (Kd.R Kd.string 9 wc w.heap.size (fun k_ => some k_ ≠ ((.slice b8 a6.length b5) : Value).ownBlock ∧ some k_ ≠ ((.slice b4 f3.length b3) : Value).ownBlock ∧ some k_ ≠ ((.slice i7 h2.length i1) : Value).ownBlock) (.slice b9 f6.length b7) f6) ∧ Aside0 (Kd.R Kd.string 9 wc w.heap.size (fun k_ => some k_ ≠ ((.slice b8 a6.length b5) : Value).ownBlock ∧ some k_ ≠ ((.slice b9 f6.length b7) : Value).ownBlock ∧ some k_ ≠ ((.slice i7 h2.length i1) : Value).ownBlock) (.slice b4 f3.length b3) f3) ∧ Aside0 (Kd.R k94 94 wc w.heap.size (fun k_ => some k_ ≠ ((.slice d6 b1.length d3) : Value).ownBlock ∧ some k_ ≠ ((.slice l6 h4.length k0) : Value).ownBlock) (.slice d1 g1.length d0) g1) ∧ Aside0 (Kd.R Kd.string 9 wc w.heap.size (fun k_ => some k_ ≠ ((.slice b8 a6.length b5) : Value).ownBlock ∧ some k_ ≠ ((.slice b9 f6.length b7) : Value).ownBlock ∧ some k_ ≠ ((.slice b4 f3.length b3) : Value).ownBlock) (.slice i7 h2.length i1) h2) ∧ Aside0 (Kd.R k94 94 wc w.heap.size (fun k_ => some k_ ≠ ((.slice d6 b1.length d3) : Value).ownBlock ∧ some k_ ≠ ((.slice d1 g1.length d0) : Value).ownBlock) (.slice l6 h4.length k0) h4) ∧ Aside0 (wc.heap[e6]? = some (.cells #[.int .i64 e1, .int .i64 e2, .int .i64 e3, (.slice g7 d9.length g8)] 38 (0, 0))) ∧ Aside0 (wc.heap[b6]? = some (.cells #[.string e7, .int .i64 f0, .int .i64 f4, .int .i64 f7, (.slice b8 a6.length b5), (.slice d6 b1.length d3)] 44 (0, 0))) ∧ Aside0 (wc.heap[h1]? = some (.cells #[.int .i64 h5, .int .i64 h6, .int .i64 h7, (.slice b9 f6.length b7)] 41 (0, 0))) ∧ Aside0 (wc.heap[d8]? = some (.cells #[.string e8, .int .i64 f1, .int .i64 f5, .int .i64 f8, (.slice b4 f3.length b3), (.slice d1 g1.length d0)] 44 (0, 0))) ∧ Aside0 (wc.heap[d7]? = some (.cells #[.string h8, .int .i64 h9, .int .i64 i0, .int .i64 i4, (.slice i7 h2.length i1), (.slice l6 h4.length k0)] 44 (0, 0))) ∧ Aside0 (Below w.heap.size w wc))
                       case first =>
                        have H := Q0.out; clear Q0; replace H := Option.bind_eq_some_iff.mp H; obtain ⟨a8r, a0f, H⟩ := H
                        try dsimp only at H
                        have a0g := zA a0f; clear a0f; replace H := zB0 H
                        rcases H with ⟨rfl, H⟩ | ⟨rfl, H⟩
                        ·have H' := zA H; clear H; have a8s := l1.out; have a8t := g5.out; have a8v := l3.out; have a8x := l2.out; have a8y := l5.out; have a8z := l4.out; have a90 := k5.out; have a91 := k4.out; obtain ⟨a0h, a0i, a0j, a0k, a0l, a0m, a0n, a0o, a0p, a0q, a0r, a0s⟩ := ze6 d4.out; have a92 := i3.out; have a93 := g0.out; have a94 := q7.out; have a95 := q8.out; have a96 := o9.out; have a97 := p0.out; obtain ⟨a0t, a0v, a0x, a0y, a0z, a10, a11, a12, a13, a14, a15, a16⟩ := ze6 a2.out
                         go_wp2_with (first | ((with_reducible refine zq 20 ?_); refine zg (some 112) Try.func20 #[.agg #[.string h8, .int .i64 h9, .int .i64 i0, .int .i64 i4, .slice i7 h2.length i1, .slice l6 h4.length k0], .agg #[.string e7, .int .i64 f0, .int .i64 f4, .int .i64 f7, .slice b8 a6.length b5, .slice d6 b1.length d3]] ?_; (with_reducible refine (laws_eqEntry.calls m9 h8 h9 i0 i4 _ _ h2 _ _ h4 e7 f0 f4 f7 _ _ a6 _ _ b1 true _ ?s1 ?s2 ?s3 ?s4 ?s5 ?s6 ?s7 ?s8 a0g.out).mono ?_); (case s1 => refine (Kd.R_reads' (e := 9) (base := w.heap.size) (ok := fun k_ => (some k_ ≠ (m3 : Value).ownBlock ∧ (some k_ ≠ (.slice b8 a6.length b5 : Value).ownBlock ∧ (some k_ ≠ (.slice b9 f6.length b7 : Value).ownBlock ∧ some k_ ≠ (.slice b4 f3.length b3 : Value).ownBlock)))) (n := h2.length) (c := i1) ?_).2.2; exact (zR (zr6 i5.out d4.out))); (case s2 => exact (Kd.R_reads' i5.out).2.1); (case s3 => refine (Kd.R_reads' (e := 94) (base := w.heap.size) (ok := fun k_ => (some k_ ≠ (.slice d6 b1.length d3 : Value).ownBlock ∧ some k_ ≠ (.slice d1 g1.length d0 : Value).ownBlock)) (n := h4.length) (c := k0) ?_).2.2; exact (zR (zr6 i6.out d4.out))); (case s4 => exact (Kd.R_reads' i6.out).2.1); (case s5 => refine (Kd.R_reads' (e := 9) (base := w.heap.size) (ok := fun k_ => (some k_ ≠ (m3 : Value).ownBlock ∧ (some k_ ≠ (.slice i7 h2.length i1 : Value).ownBlock ∧ (some k_ ≠ (.slice b9 f6.length b7 : Value).ownBlock ∧ some k_ ≠ (.slice b4 f3.length b3 : Value).ownBlock)))) (n := a6.length) (c := b5) ?_).2.2; exact (zR (zr6 b0.out d4.out))); (case s6 => exact (Kd.R_reads' b0.out).2.1); (case s7 => refine (Kd.R_reads' (e := 94) (base := w.heap.size) (ok := fun k_ => (some k_ ≠ (.slice l6 h4.length k0 : Value).ownBlock ∧ some k_ ≠ (.slice d1 g1.length d0 : Value).ownBlock)) (n := b1.length) (c := d3) ?_).2.2; exact (zR (zr6 b2.out d4.out))); (case s8 => exact (Kd.R_reads' b2.out).2.1); rintro e a98 ⟨rfl, hb⟩; refine ⟨_, rfl, ?_⟩; replace b0 := zA (Kd.R_below (zR (zr6 b0.out d4.out)) hb); replace b2 := zA (Kd.R_below (zR (zr6 b2.out d4.out)) hb); replace a9 := zA (Kd.R_below (zR (zr6 a9.out d4.out)) hb); replace a7 := zA (Kd.R_below (zR (zr6 a7.out d4.out)) hb); replace a8 := zA (Kd.R_below (zR (zr6 a8.out d4.out)) hb); replace g2 := zA (Kd.S_below (by (with_reducible repeat (first | apply Kd.S_alloc | apply Kd.S_drewN | apply Kd.S_drew)); exact (Kd.S_mono (Kd.S_far (p := ⟨d7, 5, none⟩) (Kd.S_far (p := ⟨d7, 4, none⟩) (Kd.S_far (p := ⟨d7, 3, none⟩) (Kd.S_far (p := ⟨d7, 2, none⟩) (Kd.S_far (p := ⟨d7, 1, none⟩) (Kd.S_far (p := ⟨d7, 0, none⟩) (Kd.S_mono g2.out (fun k_ hk => (⟨hk, hk.2.2.2.2.2.2.2.2.2.2⟩ : _ ∧ k_ ≠ d7))) (fun _ hk => hk.2) (.string h8)) (fun _ hk => hk.2) (.int .i64 h9)) (fun _ hk => hk.2) (.int .i64 i0)) (fun _ hk => hk.2) (.int .i64 i4)) (fun _ hk => hk.2) (.slice i7 h2.length i1)) (fun _ hk => hk.2) (.slice l6 h4.length k0)) (fun _ h_ => h_.1))) hb); replace g6 := zA (Kd.R_below (zR (zr6 g6.out d4.out)) hb); replace i5 := zA (Kd.R_below (zR (zr6 i5.out d4.out)) hb); replace i6 := zA (Kd.R_below (zR (zr6 i6.out d4.out)) hb); replace a0 := zb a0 hb; replace a2 := zb a2 hb; replace a5 := zb a5 hb; replace a3 := zb a3 hb; replace d4 := zA (blk_below (g := d7) (o := .cells #[.string h8, .int .i64 h9, .int .i64 i0, .int .i64 i4, .slice i7 h2.length i1, .slice l6 h4.length k0] 44 (0, 0)) (by (with_reducible repeat (first | refine blk_drewN ?_ _ | refine blk_drew ?_ | refine blk_alloc ?_ _)); refine blk_put (cs := #[.string h8, .int .i64 h9, .int .i64 i0, .int .i64 i4, .slice i7 h2.length i1, .slice none 0 0]) ?_ 5 _ rfl; (with_reducible repeat (first | refine blk_drewN ?_ _ | refine blk_drew ?_ | refine blk_alloc ?_ _)); refine blk_put (cs := #[.string h8, .int .i64 h9, .int .i64 i0, .int .i64 i4, .slice none 0 0, .slice none 0 0]) ?_ 4 _ rfl; (with_reducible repeat (first | refine blk_drewN ?_ _ | refine blk_drew ?_ | refine blk_alloc ?_ _)); refine blk_put (cs := #[.string h8, .int .i64 h9, .int .i64 i0, .int .i64 0, .slice none 0 0, .slice none 0 0]) ?_ 3 _ rfl; (with_reducible repeat (first | refine blk_drewN ?_ _ | refine blk_drew ?_ | refine blk_alloc ?_ _)); refine blk_put (cs := #[.string h8, .int .i64 h9, .int .i64 0, .int .i64 0, .slice none 0 0, .slice none 0 0]) ?_ 2 _ rfl; (with_reducible repeat (first | refine blk_drewN ?_ _ | refine blk_drew ?_ | refine blk_alloc ?_ _)); refine blk_put (cs := #[.string h8, .int .i64 0, .int .i64 0, .int .i64 0, .slice none 0 0, .slice none 0 0]) ?_ 1 _ rfl; (with_reducible repeat (first | refine blk_drewN ?_ _ | refine blk_drew ?_ | refine blk_alloc ?_ _)); refine blk_put (cs := #[.string (⟨#[]⟩ : ByteArray), .int .i64 0, .int .i64 0, .int .i64 0, .slice none 0 0, .slice none 0 0]) ?_ 0 _ rfl; (with_reducible repeat (first | refine blk_drewN ?_ _ | refine blk_drew ?_ | refine blk_alloc ?_ _)); exact d4.out) hb); replace HB := zh HB hb; (try clear hb)))
                         go_meet
                         case rel => exact ⟨_, ((B3 != i9)), zS, (by first | exact H' | (subst_vars; exact H')), ⟨by have := k6.out; have := l7.out; have := l9.out; have := m8.out; have := o0.out; have := o5.out; have := p1.out; have := C6.out; have := E1.out; have := M5.out; have := P8.out; first | omega | exact Nat.le_refl _⟩, ⟨by (try simp only [d2]); (try simp only [e4]); (try simp only [e5]); (with_reducible repeat (first | apply Kd.R_alloc | apply Kd.R_drewN | apply Kd.R_drew)); exact Kd.R_mono b0.out (fun _ hk => ⟨hk.2.2.1, ⟨hk.2.2.2, hk.2.1⟩⟩)⟩, ⟨by (try simp only [d2]); (try simp only [e4]); (try simp only [e5]); (with_reducible repeat (first | apply Kd.R_alloc | apply Kd.R_drewN | apply Kd.R_drew)); exact Kd.R_mono b2.out (fun _ hk => ⟨hk.2, hk.1⟩)⟩, ⟨by (try simp only [d2]); (try simp only [e4]); (try simp only [e5]); (with_reducible repeat (first | apply Kd.R_alloc | apply Kd.R_drewN | apply Kd.R_drew)); exact Kd.R_mono a9.out (fun _ hk => ⟨hk.2.2.1, ⟨hk.2.2.2, hk.2.1⟩⟩)⟩, ⟨by (try simp only [d2]); (try simp only [e4]); (try simp only [e5]); (with_reducible repeat (first | apply Kd.R_alloc | apply Kd.R_drewN | apply Kd.R_drew)); exact Kd.R_mono a7.out (fun _ hk => ⟨hk.2.2.1, ⟨hk.2.2.2, hk.2.1⟩⟩)⟩, ⟨by (try simp only [d2]); (try simp only [e4]); (try simp only [e5]); (with_reducible repeat (first | apply Kd.R_alloc | apply Kd.R_drewN | apply Kd.R_drew)); exact Kd.R_mono a8.out (fun _ hk => ⟨hk.2, hk.1⟩)⟩, ⟨by (try simp only [d2]); (try simp only [e4]); (try simp only [e5]); (with_reducible repeat (first | apply Kd.R_alloc | apply Kd.R_drewN | apply Kd.R_drew)); exact Kd.R_mono i5.out (fun _ hk => ⟨hk.2.1, ⟨hk.2.2.1, hk.2.2.2⟩⟩)⟩, ⟨by (try simp only [d2]); (try simp only [e4]); (try simp only [e5]); (with_reducible repeat (first | apply Kd.R_alloc | apply Kd.R_drewN | apply Kd.R_drew)); exact i6.out⟩, ⟨by (try simp only [d2]); (try simp only [e4]); (try simp only [e5]); (with_reducible repeat (first | refine blk_drewN ?_ _ | refine blk_drew ?_ | refine blk_alloc ?_ _)); exact a0.out⟩, ⟨by (try simp only [d2]); (try simp only [e4]); (try simp only [e5]); (with_reducible repeat (first | refine blk_drewN ?_ _ | refine blk_drew ?_ | refine blk_alloc ?_ _)); exact a2.out⟩, ⟨by (try simp only [d2]); (try simp only [e4]); (try simp only [e5]); (with_reducible repeat (first | refine blk_drewN ?_ _ | refine blk_drew ?_ | refine blk_alloc ?_ _)); exact a5.out⟩, ⟨by (try simp only [d2]); (try simp only [e4]); (try simp only [e5]); (with_reducible repeat (first | refine blk_drewN ?_ _ | refine blk_drew ?_ | refine blk_alloc ?_ _)); exact a3.out⟩, ⟨by (try simp only [d2]); (try simp only [e4]); (try simp only [e5]); (with_reducible repeat (first | refine blk_drewN ?_ _ | refine blk_drew ?_ | refine blk_alloc ?_ _)); exact d4.out⟩, ⟨zW HB.out⟩⟩
                        have H' := zA H; clear H; have a99 := l1.out; have a9a := g5.out; have a9b := l3.out; have a9c := l2.out; have a9d := l5.out; have a9e := l4.out; have a9f := k5.out; have a9g := k4.out; obtain ⟨a17, a18, a19, a1a, a1b, a1c, a1d, a1e, a1f, a1g, a1h, a1i⟩ := ze6 d4.out; have a9h := i3.out; have a9i := g0.out; have a9j := q7.out; have a9k := q8.out; have a9l := o9.out; have a9m := p0.out; obtain ⟨a1j, a1k, a1l, a1m, a1n, a1o, a1p, a1q, a1r, a1s, a1t, a1v⟩ := ze6 a2.out
                        go_wp2_with (first | ((with_reducible refine zq 20 ?_); refine zg (some 112) Try.func20 #[.agg #[.string h8, .int .i64 h9, .int .i64 i0, .int .i64 i4, .slice i7 h2.length i1, .slice l6 h4.length k0], .agg #[.string e7, .int .i64 f0, .int .i64 f4, .int .i64 f7, .slice b8 a6.length b5, .slice d6 b1.length d3]] ?_; (with_reducible refine (laws_eqEntry.calls m9 h8 h9 i0 i4 _ _ h2 _ _ h4 e7 f0 f4 f7 _ _ a6 _ _ b1 false _ ?s1 ?s2 ?s3 ?s4 ?s5 ?s6 ?s7 ?s8 a0g.out).mono ?_); (case s1 => refine (Kd.R_reads' (e := 9) (base := w.heap.size) (ok := fun k_ => (some k_ ≠ (m3 : Value).ownBlock ∧ (some k_ ≠ (.slice b8 a6.length b5 : Value).ownBlock ∧ (some k_ ≠ (.slice b9 f6.length b7 : Value).ownBlock ∧ some k_ ≠ (.slice b4 f3.length b3 : Value).ownBlock)))) (n := h2.length) (c := i1) ?_).2.2; exact (zR (zr6 i5.out d4.out))); (case s2 => exact (Kd.R_reads' i5.out).2.1); (case s3 => refine (Kd.R_reads' (e := 94) (base := w.heap.size) (ok := fun k_ => (some k_ ≠ (.slice d6 b1.length d3 : Value).ownBlock ∧ some k_ ≠ (.slice d1 g1.length d0 : Value).ownBlock)) (n := h4.length) (c := k0) ?_).2.2; exact (zR (zr6 i6.out d4.out))); (case s4 => exact (Kd.R_reads' i6.out).2.1); (case s5 => refine (Kd.R_reads' (e := 9) (base := w.heap.size) (ok := fun k_ => (some k_ ≠ (m3 : Value).ownBlock ∧ (some k_ ≠ (.slice i7 h2.length i1 : Value).ownBlock ∧ (some k_ ≠ (.slice b9 f6.length b7 : Value).ownBlock ∧ some k_ ≠ (.slice b4 f3.length b3 : Value).ownBlock)))) (n := a6.length) (c := b5) ?_).2.2; exact (zR (zr6 b0.out d4.out))); (case s6 => exact (Kd.R_reads' b0.out).2.1); (case s7 => refine (Kd.R_reads' (e := 94) (base := w.heap.size) (ok := fun k_ => (some k_ ≠ (.slice l6 h4.length k0 : Value).ownBlock ∧ some k_ ≠ (.slice d1 g1.length d0 : Value).ownBlock)) (n := b1.length) (c := d3) ?_).2.2; exact (zR (zr6 b2.out d4.out))); (case s8 => exact (Kd.R_reads' b2.out).2.1); rintro e a9n ⟨rfl, hb⟩; refine ⟨_, rfl, ?_⟩; replace b0 := zA (Kd.R_below (zR (zr6 b0.out d4.out)) hb); replace b2 := zA (Kd.R_below (zR (zr6 b2.out d4.out)) hb); replace a9 := zA (Kd.R_below (zR (zr6 a9.out d4.out)) hb); replace a7 := zA (Kd.R_below (zR (zr6 a7.out d4.out)) hb); replace a8 := zA (Kd.R_below (zR (zr6 a8.out d4.out)) hb); replace g2 := zA (Kd.S_below (by (with_reducible repeat (first | apply Kd.S_alloc | apply Kd.S_drewN | apply Kd.S_drew)); exact (Kd.S_mono (Kd.S_far (p := ⟨d7, 5, none⟩) (Kd.S_far (p := ⟨d7, 4, none⟩) (Kd.S_far (p := ⟨d7, 3, none⟩) (Kd.S_far (p := ⟨d7, 2, none⟩) (Kd.S_far (p := ⟨d7, 1, none⟩) (Kd.S_far (p := ⟨d7, 0, none⟩) (Kd.S_mono g2.out (fun k_ hk => (⟨hk, hk.2.2.2.2.2.2.2.2.2.2⟩ : _ ∧ k_ ≠ d7))) (fun _ hk => hk.2) (.string h8)) (fun _ hk => hk.2) (.int .i64 h9)) (fun _ hk => hk.2) (.int .i64 i0)) (fun _ hk => hk.2) (.int .i64 i4)) (fun _ hk => hk.2) (.slice i7 h2.length i1)) (fun _ hk => hk.2) (.slice l6 h4.length k0)) (fun _ h_ => h_.1))) hb); replace g6 := zA (Kd.R_below (zR (zr6 g6.out d4.out)) hb); replace i5 := zA (Kd.R_below (zR (zr6 i5.out d4.out)) hb); replace i6 := zA (Kd.R_below (zR (zr6 i6.out d4.out)) hb); replace a0 := zb a0 hb; replace a2 := zb a2 hb; replace a5 := zb a5 hb; replace a3 := zb a3 hb; replace d4 := zA (blk_below (g := d7) (o := .cells #[.string h8, .int .i64 h9, .int .i64 i0, .int .i64 i4, .slice i7 h2.length i1, .slice l6 h4.length k0] 44 (0, 0)) (by (with_reducible repeat (first | refine blk_drewN ?_ _ | refine blk_drew ?_ | refine blk_alloc ?_ _)); refine blk_put (cs := #[.string h8, .int .i64 h9, .int .i64 i0, .int .i64 i4, .slice i7 h2.length i1, .slice none 0 0]) ?_ 5 _ rfl; (with_reducible repeat (first | refine blk_drewN ?_ _ | refine blk_drew ?_ | refine blk_alloc ?_ _)); refine blk_put (cs := #[.string h8, .int .i64 h9, .int .i64 i0, .int .i64 i4, .slice none 0 0, .slice none 0 0]) ?_ 4 _ rfl; (with_reducible repeat (first | refine blk_drewN ?_ _ | refine blk_drew ?_ | refine blk_alloc ?_ _)); refine blk_put (cs := #[.string h8, .int .i64 h9, .int .i64 i0, .int .i64 0, .slice none 0 0, .slice none 0 0]) ?_ 3 _ rfl; (with_reducible repeat (first | refine blk_drewN ?_ _ | refine blk_drew ?_ | refine blk_alloc ?_ _)); refine blk_put (cs := #[.string h8, .int .i64 h9, .int .i64 0, .int .i64 0, .slice none 0 0, .slice none 0 0]) ?_ 2 _ rfl; (with_reducible repeat (first | refine blk_drewN ?_ _ | refine blk_drew ?_ | refine blk_alloc ?_ _)); refine blk_put (cs := #[.string h8, .int .i64 0, .int .i64 0, .int .i64 0, .slice none 0 0, .slice none 0 0]) ?_ 1 _ rfl; (with_reducible repeat (first | refine blk_drewN ?_ _ | refine blk_drew ?_ | refine blk_alloc ?_ _)); refine blk_put (cs := #[.string (⟨#[]⟩ : ByteArray), .int .i64 0, .int .i64 0, .int .i64 0, .slice none 0 0, .slice none 0 0]) ?_ 0 _ rfl; (with_reducible repeat (first | refine blk_drewN ?_ _ | refine blk_drew ?_ | refine blk_alloc ?_ _)); exact d4.out) hb); replace HB := zh HB hb; (try clear hb)))
                        go_meet
                        case rel => exact ⟨_, (true), zS, (by first | exact H' | (subst_vars; exact H')), ⟨by have := k6.out; have := l7.out; have := l9.out; have := m8.out; have := o0.out; have := o5.out; have := p1.out; have := C6.out; have := E1.out; have := M5.out; have := P8.out; first | omega | exact Nat.le_refl _⟩, ⟨by (try simp only [d2]); (try simp only [e4]); (try simp only [e5]); (with_reducible repeat (first | apply Kd.R_alloc | apply Kd.R_drewN | apply Kd.R_drew)); exact Kd.R_mono b0.out (fun _ hk => ⟨hk.2.2.1, ⟨hk.2.2.2, hk.2.1⟩⟩)⟩, ⟨by (try simp only [d2]); (try simp only [e4]); (try simp only [e5]); (with_reducible repeat (first | apply Kd.R_alloc | apply Kd.R_drewN | apply Kd.R_drew)); exact Kd.R_mono b2.out (fun _ hk => ⟨hk.2, hk.1⟩)⟩, ⟨by (try simp only [d2]); (try simp only [e4]); (try simp only [e5]); (with_reducible repeat (first | apply Kd.R_alloc | apply Kd.R_drewN | apply Kd.R_drew)); exact Kd.R_mono a9.out (fun _ hk => ⟨hk.2.2.1, ⟨hk.2.2.2, hk.2.1⟩⟩)⟩, ⟨by (try simp only [d2]); (try simp only [e4]); (try simp only [e5]); (with_reducible repeat (first | apply Kd.R_alloc | apply Kd.R_drewN | apply Kd.R_drew)); exact Kd.R_mono a7.out (fun _ hk => ⟨hk.2.2.1, ⟨hk.2.2.2, hk.2.1⟩⟩)⟩, ⟨by (try simp only [d2]); (try simp only [e4]); (try simp only [e5]); (with_reducible repeat (first | apply Kd.R_alloc | apply Kd.R_drewN | apply Kd.R_drew)); exact Kd.R_mono a8.out (fun _ hk => ⟨hk.2, hk.1⟩)⟩, ⟨by (try simp only [d2]); (try simp only [e4]); (try simp only [e5]); (with_reducible repeat (first | apply Kd.R_alloc | apply Kd.R_drewN | apply Kd.R_drew)); exact Kd.R_mono i5.out (fun _ hk => ⟨hk.2.1, ⟨hk.2.2.1, hk.2.2.2⟩⟩)⟩, ⟨by (try simp only [d2]); (try simp only [e4]); (try simp only [e5]); (with_reducible repeat (first | apply Kd.R_alloc | apply Kd.R_drewN | apply Kd.R_drew)); exact i6.out⟩, ⟨by (try simp only [d2]); (try simp only [e4]); (try simp only [e5]); (with_reducible repeat (first | refine blk_drewN ?_ _ | refine blk_drew ?_ | refine blk_alloc ?_ _)); exact a0.out⟩, ⟨by (try simp only [d2]); (try simp only [e4]); (try simp only [e5]); (with_reducible repeat (first | refine blk_drewN ?_ _ | refine blk_drew ?_ | refine blk_alloc ?_ _)); exact a2.out⟩, ⟨by (try simp only [d2]); (try simp only [e4]); (try simp only [e5]); (with_reducible repeat (first | refine blk_drewN ?_ _ | refine blk_drew ?_ | refine blk_alloc ?_ _)); exact a5.out⟩, ⟨by (try simp only [d2]); (try simp only [e4]); (try simp only [e5]); (with_reducible repeat (first | refine blk_drewN ?_ _ | refine blk_drew ?_ | refine blk_alloc ?_ _)); exact a3.out⟩, ⟨by (try simp only [d2]); (try simp only [e4]); (try simp only [e5]); (with_reducible repeat (first | refine blk_drewN ?_ _ | refine blk_drew ?_ | refine blk_alloc ?_ _)); exact d4.out⟩, ⟨zW HB.out⟩⟩
                       case rest =>
                        clear Q0
                        try clear c1
                        try clear c2
                        try clear p2
                        try clear c15
                        try clear c16
                        try clear c17
                        try clear c18
                        try clear c19
                        try clear c20
                        try clear c156
                        try clear c157
                        try clear c158
                        try clear c159
                        try clear c160
                        try clear c162
                        try clear c163
                        try clear c164
                        try clear c167
                        try clear c168
                        try clear c169
                        try clear c170
                        try clear c172
                        try clear c173
                        try clear c174
                        try clear a0h a0i a0j a0k a0l a0m a0n a0o a0p a0q a0r a0s
                        try clear a0t a0v a0x a0y a0z a10 a11 a12 a13 a14 a15 a16
                        try clear a17 a18 a19 a1a a1b a1c a1d a1e a1f a1g a1h a1i
                        try clear a1j a1k a1l a1m a1n a1o a1p a1q a1r a1s a1t a1v
                        obtain ⟨kq, Q3, rfl, HA, a37, b0, b2, a9, a7, a8, M8, M9, a0, a2, a5, a3, d4, HB⟩ := hcut
                        cases kq with
                        | zero => exact absurd HA.out (by simp [laws_FnExactEntryOf.j11])
                        | succ a38 =>
                         have H := HA.out; clear HA; simp only [laws_FnExactEntryOf.j11] at H; have Q4 := zA H; clear H
                         go_upto_if 118 with (fail)
                         go_cut [] (fun wc => ∃ (kq : Nat), Aside0 (laws_FnExactEntryOf.j12 kq E2 e8 f1 f5 f8 f3 g1 = some r) ∧ Aside0 (kq ≤ a38) ∧ Aside0 (Kd.R Kd.string 9 wc w.heap.size (fun k_ => some k_ ≠ ((.slice b9 f6.length b7) : Value).ownBlock ∧ some k_ ≠ ((.slice b4 f3.length b3) : Value).ownBlock ∧ some k_ ≠ ((.slice i7 h2.length i1) : Value).ownBlock) (.slice b8 a6.length b5) a6) ∧ Aside0 (Kd.R k94 94 wc w.heap.size (fun k_ => some k_ ≠ ((.slice d1 g1.length d0) : Value).ownBlock ∧ some k_ ≠ ((.slice l6 h4.length k0) : Value).ownBlock) (.slice d6 b1.length d3) b1) ∧ Aside0 (Kd.R Kd.string 9 wc w.heap.size (fun k_ => some k_ ≠ ((.slice b8 a6.length b5) : Value).ownBlock ∧ some k_ ≠ ((.slice b4 f3.length b3) : Value).ownBlock ∧ some k_ ≠ ((.slice i7 h2.length i1) : Value).ownBlock) (.slice b9 f6.length b7) f6) ∧ Aside0 (Kd.R Kd.string 9 wc w.heap.size (fun k_ => some k_ ≠ ((.slice b8 a6.length b5) : Value).ownBlock ∧ some k_ ≠ ((.slice b9 f6.length b7) : Value).ownBlock ∧ some k_ ≠ ((.slice i7 h2.length i1) : Value).ownBlock) (.slice b4 f3.length b3) f3) ∧ Aside0 (Kd.R k94 94 wc w.heap.size (fun k_ => some k_ ≠ ((.slice d6 b1.length d3) : Value).ownBlock ∧ some k_ ≠ ((.slice l6 h4.length k0) : Value).ownBlock) (.slice d1 g1.length d0) g1) ∧ Aside0 (Kd.R Kd.string 9 wc w.heap.size (fun k_ => some k_ ≠ ((.slice b8 a6.length b5) : Value).ownBlock ∧ some k_ ≠ ((.slice b9 f6.length b7) : Value).ownBlock ∧ some k_ ≠ ((.slice b4 f3.length b3) : Value).ownBlock) (.slice i7 h2.length i1) h2) ∧ Aside0 (Kd.R k94 94 wc w.heap.size (fun k_ => some k_ ≠ ((.slice d6 b1.length d3) : Value).ownBlock ∧ some k_ ≠ ((.slice d1 g1.length d0) : Value).ownBlock) (.slice l6 h4.length k0) h4) ∧ Aside0 (wc.heap[e6]? = some (.cells #[.int .i64 e1, .int .i64 e2, .int .i64 e3, (.slice g7 d9.length g8)] 38 (0, 0))) ∧ Aside0 (wc.heap[b6]? = some (.cells #[.string e7, .int .i64 f0, .int .i64 f4, .int .i64 f7, (.slice b8 a6.length b5), (.slice d6 b1.length d3)] 44 (0, 0))) ∧ Aside0 (wc.heap[h1]? = some (.cells #[.int .i64 h5, .int .i64 h6, .int .i64 h7, (.slice b9 f6.length b7)] 41 (0, 0))) ∧ Aside0 (wc.heap[d8]? = some (.cells #[.string e8, .int .i64 f1, .int .i64 f5, .int .i64 f8, (.slice b4 f3.length b3), (.slice d1 g1.length d0)] 44 (0, 0))) ∧ Aside0 (wc.heap[d7]? = some (.cells #[.string h8, .int .i64 h9, .int .i64 i0, .int .i64 i4, (.slice i7 h2.length i1), (.slice l6 h4.length k0)] 44 (0, 0))) ∧ Aside0 (Below w.heap.size w wc))
                         case first =>
                          have H := Q4.out; clear Q4; replace H := zB0 H
                          rcases H with ⟨rfl, H⟩ | ⟨rfl, H⟩
                          ·exact absurd H (by simp)
                          have H' := zA H; clear H
                          go_wp2
                          go_meet
                          case rel => exact ⟨_, (by first | exact H' | (subst_vars; exact H')), ⟨by have := k6.out; have := l7.out; have := l9.out; have := m8.out; have := o0.out; have := o5.out; have := p1.out; have := C6.out; have := E1.out; have := M5.out; have := P8.out; have := a37.out; first | omega | exact Nat.le_refl _⟩, ⟨by (try simp only [d2]); (try simp only [e4]); (try simp only [e5]); (with_reducible repeat (first | apply Kd.R_alloc | apply Kd.R_drewN | apply Kd.R_drew)); exact b0.out⟩, ⟨by (try simp only [d2]); (try simp only [e4]); (try simp only [e5]); (with_reducible repeat (first | apply Kd.R_alloc | apply Kd.R_drewN | apply Kd.R_drew)); exact b2.out⟩, ⟨by (try simp only [d2]); (try simp only [e4]); (try simp only [e5]); (with_reducible repeat (first | apply Kd.R_alloc | apply Kd.R_drewN | apply Kd.R_drew)); exact a9.out⟩, ⟨by (try simp only [d2]); (try simp only [e4]); (try simp only [e5]); (with_reducible repeat (first | apply Kd.R_alloc | apply Kd.R_drewN | apply Kd.R_drew)); exact a7.out⟩, ⟨by (try simp only [d2]); (try simp only [e4]); (try simp only [e5]); (with_reducible repeat (first | apply Kd.R_alloc | apply Kd.R_drewN | apply Kd.R_drew)); exact a8.out⟩, ⟨by (try simp only [d2]); (try simp only [e4]); (try simp only [e5]); (with_reducible repeat (first | apply Kd.R_alloc | apply Kd.R_drewN | apply Kd.R_drew)); exact M8.out⟩, ⟨by (try simp only [d2]); (try simp only [e4]); (try simp only [e5]); (with_reducible repeat (first | apply Kd.R_alloc | apply Kd.R_drewN | apply Kd.R_drew)); exact M9.out⟩, ⟨by (try simp only [d2]); (try simp only [e4]); (try simp only [e5]); (with_reducible repeat (first | refine blk_drewN ?_ _ | refine blk_drew ?_ | refine blk_alloc ?_ _)); exact a0.out⟩, ⟨by (try simp only [d2]); (try simp only [e4]); (try simp only [e5]); (with_reducible repeat (first | refine blk_drewN ?_ _ | refine blk_drew ?_ | refine blk_alloc ?_ _)); exact a2.out⟩, ⟨by (try simp only [d2]); (try simp only [e4]); (try simp only [e5]); (with_reducible repeat (first | refine blk_drewN ?_ _ | refine blk_drew ?_ | refine blk_alloc ?_ _)); exact a5.out⟩, ⟨by (try simp only [d2]); (try simp only [e4]); (try simp only [e5]); (with_reducible repeat (first | refine blk_drewN ?_ _ | refine blk_drew ?_ | refine blk_alloc ?_ _)); exact a3.out⟩, ⟨by (try simp only [d2]); (try simp only [e4]); (try simp only [e5]); (with_reducible repeat (first | refine blk_drewN ?_ _ | refine blk_drew ?_ | refine blk_alloc ?_ _)); exact d4.out⟩, ⟨zW HB.out⟩⟩
                         case rest =>
                          clear Q4
                          try clear c1
                          try clear c2
                          try clear p2
                          try clear c15
                          try clear c16
                          try clear c17
                          try clear c18
                          try clear c19
                          try clear c20
                          try clear c156
                          try clear c157
                          try clear c158
                          try clear c159
                          try clear c160
                          try clear c162
                          try clear c163
                          try clear c164
                          try clear c167
                          try clear c168
                          try clear c169
                          try clear c170
                          try clear c172
                          try clear c173
                          try clear c174
                          try clear c178
                          try clear a0h a0i a0j a0k a0l a0m a0n a0o a0p a0q a0r a0s
                          try clear a0t a0v a0x a0y a0z a10 a11 a12 a13 a14 a15 a16
                          try clear a17 a18 a19 a1a a1b a1c a1d a1e a1f a1g a1h a1i
                          try clear a1j a1k a1l a1m a1n a1o a1p a1q a1r a1s a1t a1v
                          try clear p2
                          obtain ⟨kq, HA, a9o, b0, b2, a9, a7, a8, M8, M9, a0, a2, a5, a3, d4, HB⟩ := hcut
                          cases kq with
                          | zero => exact absurd HA.out (by simp [laws_FnExactEntryOf.j12])
                          | succ a39 =>
                           have H := HA.out; clear HA; simp only [laws_FnExactEntryOf.j12] at H; replace H := Option.bind_eq_some_iff.mp H; obtain ⟨a3a, a1x, H⟩ := H
                           try dsimp only at H
                           have a3b := zA a1x; clear a1x; replace H := zI1 H
                           rcases H with ⟨Q5, H⟩ | ⟨Q5, H⟩
                           ·exact absurd H (by simp)
                           have a9p := decide_eq_false Q5; clear Q5; replace H := zC0 H; obtain ⟨Q6, H⟩ := H; have a9q := beq_iff_eq.mpr Q6; have a9r := bne_eq_false_iff_eq.mpr Q6; clear Q6; obtain rfl := zm H; have a9s := C4.out; have a9t := C3.out; have a9v := p0.out; have a9x := o9.out; have a9y := r9.out; have a9z := r8.out; have b00 := k4.out; have b01 := k5.out; obtain ⟨b02, b03, b04, b05, b06, b07, b08, b09, b0a, b0b, b0c, b0d⟩ := ze6 a3.out
                           go_wp2_with (first | ((with_reducible refine zq 26 ?_); refine zg (some 121) Try.func26 #[.agg #[.string e8, .int .i64 f1, .int .i64 f5, .int .i64 f8, .slice b4 f3.length b3, .slice d1 g1.length d0], .int .i64 1] ?_; (with_reducible refine (laws_heldEntry.calls a39 e8 f1 f5 f8 _ _ f3 _ _ g1 1 a3a _ ?s1 ?s2 ?s3 ?s4 a3b.out).mono ?_); (case s1 => repeat (first | exact (Kd.R_reads' a7.out).2.2 | (with_reducible refine Kd.C_alloc ?_ _) | (with_reducible refine Kd.C_drewN ?_ _) | (with_reducible refine Kd.C_drew ?_))); (case s2 => exact (Kd.R_reads' a7.out).2.1); (case s3 => repeat (first | exact (Kd.R_reads' a8.out).2.2 | (with_reducible refine Kd.C_alloc ?_ _) | (with_reducible refine Kd.C_drewN ?_ _) | (with_reducible refine Kd.C_drew ?_))); (case s4 => exact (Kd.R_reads' a8.out).2.1); rintro e b0e ⟨rfl, hb⟩; refine ⟨_, rfl, ?_⟩; replace b0 := zr b0 hb; replace b2 := zr b2 hb; replace a9 := zr a9 hb; replace a7 := zr a7 hb; replace a8 := zr a8 hb; replace M8 := zr M8 hb; replace M9 := zr M9 hb; replace a0 := zb a0 hb; replace a2 := zb a2 hb; replace a5 := zb a5 hb; replace a3 := zb a3 hb; replace d4 := zb d4 hb; replace HB := zh HB hb; (try clear hb)))
                           go_ret
                           exact ⟨zE, zW HB.out⟩
end Go.Proofs.Ytbaeljcnbkeipaa.PGC
