/- The walks of the functions that these laws reach, and what each comes to: printed by this session's program. -/
import Derived.Test.YtpcdhoeoefoeoaaGreatDoorZGCPGCx0
import Derived.Test.YtpcdhoeoefoeoaaGreatDoorZGCSays
namespace Go.Proofs.YtpcdhoeoefoeoaaGreatDoor.PGC
open Go.RowKit YtpcdhoeoefoeoaaGreatDoorW.PrintWords YtpcdhoeoefoeoaaGreatDoorW.PrintLast YtpcdhoeoefoeoaaGreatDoorW.PrintMore
attribute [local go_sem high] Mine.str_gtr Mine.str_leq Mine.str_geq
attribute [local go_sem] max2_int min2_int max_two min_two max_three min_three max_four min_four   -- for this text's walks alone
set_option linter.unusedVariables false
set_option maxHeartbeats 8000000
set_option maxRecDepth 100000
set_option linter.unusedSimpArgs false
/-! ### laws_szStringS: function 48 -/
mutual
def laws_szStringS.j0 : Nat → List ByteArray → Int → Option (Int)
 | 0, _, _ => none
 | k + 1, x0, x1 => laws_szStringS.l0 k x0 x1 0
def laws_szStringS.l0 : Nat → List ByteArray → Int → Int → Option (Int)
 | 0, _, _, _ => none
 | k + 1, x0, x1, x5 => if x5 < (x0.length : Int) then (if 0 ≤ x5 then (if (wrap64 (x1 - ((rdOf ByteArray.empty x0 x5).size : Int))) < 0 then (some (-1)) else (laws_szStringS.l0 k x0 (wrap64 (x1 - ((rdOf ByteArray.empty x0 x5).size : Int))) (wrap64 (x5 + 1)))) else (none)) else (some x1)
end
def laws_szStringS.f (k : Nat) (l0 : List ByteArray) (a1 : Int) : Option (Int) := if (wrap64 (a1 - (l0.length : Int))) < 0 then (some (-1)) else (laws_szStringS.j0 k l0 (wrap64 (a1 - (l0.length : Int))))
theorem laws_szStringS.calls (k : Nat) (A0 : Option Addr) (c0 : Nat) (l0 : List ByteArray) (a1 r : Int) (w : World) (a8 : Kd.C Kd.string w A0 l0.length l0) (a9 : l0.length ≤ c0) (h : laws_szStringS.f k l0 a1 = some r) :
  Calls Tryz.prog 48 #[.slice A0 l0.length c0, .int .i64 a1] w fun e w' => e = .returned (.int .i64 r) ∧ Drawn0 w w' := by
 have b0 := Aside0.mk a8
 have b8 := Aside0.mk a9
 clear a8 a9
 unfold laws_szStringS.f at h
 have H := h
 clear h
 have a6 := Aside0.mk H
 clear H
 go_enter Tryz.func48, Tryz.ntmps48
 go_upto_if 11 with (fail)
 go_cut [] (fun wc => ∃ (kq : Nat), Aside0 (laws_szStringS.j0 kq l0 (wrap64 (a1 - (l0.length : Int))) = some r) ∧ Aside0 (kq ≤ k) ∧ Drawn0 w wc)
 case first =>
  have H := a6.out
  clear a6
  replace H := zI0 H
  rcases H with ⟨a2, H⟩ | ⟨a2, H⟩
  ·(first | rw [a2] | (simp only [i64_w, i32_w]; rw [a2]) | skip)
   obtain rfl := Option.some.inj H
   go_wp2
   go_ret
   exact ⟨by first | rfl | (simp; done) | (simp [*]; done) | (simp; rw [Bool.eq_iff_iff]; simp; done), by repeat (first | exact Drawn0.refl _ | apply Drawn0.step)⟩
  ·(first | rw [a2] | (simp only [i64_w, i32_w]; rw [a2]) | skip)
   have H' := Aside0.mk H
   clear H
   go_wp2
   go_meet
   case rel => exact ⟨_, (by first | exact H' | (subst_vars; exact H')), ⟨by first | omega | exact Nat.le_refl _⟩, by repeat (first | exact Drawn0.refl _ | apply Drawn0.step)⟩
 case rest =>
  clear a6
  try clear p2
  try clear c4
  try clear a2
  obtain ⟨kq, HA, b1, ⟨b9, rfl⟩⟩ := hcut
  cases kq with
  | zero => exact absurd HA.out (by simp [laws_szStringS.j0])
  | succ b2 =>
   have H := HA.out
   clear HA
   simp only [laws_szStringS.j0] at H
   have H' := Aside0.mk H
   clear H
   go_wp2
   go_loopg [1, 5] b2 (fun kq v1 v5 w' => ∃ (a5 : Int) (a0 : Int), v1 = .int .i64 a5 ∧ v5 = .int .i64 a0 ∧ Aside0 (laws_szStringS.l0 kq l0 a5 a0 = some r) ∧ Aside0 (kq ≤ b2) ∧ Drawn0 w w')
   case atStart => exact ⟨((wrap64 (a1 - (l0.length : Int)))), (0), zS, zS, H', ⟨Nat.le_refl _⟩, by repeat (first | exact Drawn0.refl _ | apply Drawn0.step)⟩
   case round =>
    clear H'
    try clear c2
    try clear p2
    try clear c4
    try clear a2
    try clear p2
    obtain ⟨a5, a0, rfl, rfl, HA, b3, ⟨m2, rfl⟩⟩ := hrel
    cases gk with
    | zero => exact absurd HA.out (by simp [laws_szStringS.l0])
    | succ k2 =>
     have H := HA.out
     clear HA
     simp only [laws_szStringS.l0] at H
     replace H := zI0 H
     rcases H with ⟨b4, H⟩ | ⟨b4, H⟩
     ·replace H := zD0 H
      obtain ⟨c1, H⟩ := H
      replace H := zI0 H
      rcases H with ⟨b5, H⟩ | ⟨b5, H⟩
      ·obtain rfl := Option.some.inj H
       have a3 : 0 ≤ (a0 : Int) := zD
       have a4 : a0 < (l0.length : Int) := zD
       obtain ⟨b6, a7, b7⟩ := Kd.at_string b0.out a0 a3 a4
       cases a7
       replace a3 := eq_true a3
       replace a4 := eq_true a4
       go_wp2
       go_ret
       exact ⟨by first | rfl | (simp; done) | (simp [*]; done) | (simp; rw [Bool.eq_iff_iff]; simp; done), by repeat (first | exact Drawn0.refl _ | apply Drawn0.step)⟩
      ·have H' := Aside0.mk H
       clear H
       have a3 : 0 ≤ (a0 : Int) := zD
       have a4 : a0 < (l0.length : Int) := zD
       obtain ⟨b6, a7, b7⟩ := Kd.at_string b0.out a0 a3 a4
       cases a7
       replace a3 := eq_true a3
       replace a4 := eq_true a4
       go_wp2
       go_roundg k2
       case measure => have := b1.out; have := b3.out; omega
       case rel => exact ⟨(wrap64 (a5 - ((rdOf ByteArray.empty l0 a0).size : Int))), (wrap64 (a0 + 1)), zS, zS, H', ⟨by have := b1.out; have := b3.out; omega⟩, by repeat (first | exact Drawn0.refl _ | apply Drawn0.step)⟩
     ·obtain rfl := Option.some.inj H
      go_wp2
      go_ret
      exact ⟨by first | rfl | (simp; done) | (simp [*]; done) | (simp; rw [Bool.eq_iff_iff]; simp; done), by repeat (first | exact Drawn0.refl _ | apply Drawn0.step)⟩
/-! ### laws_szNeed: function 9 -/
def laws_szNeed.f (a0 a2 : ByteArray) (a1 : Int) : Option (Int) := if (wrap64 (a1 - (a0.size : Int))) < 0 then (some (-1)) else (if (wrap64 ((wrap64 (a1 - (a0.size : Int))) - (a2.size : Int))) < 0 then (some (-1)) else (some (wrap64 ((wrap64 (a1 - (a0.size : Int))) - (a2.size : Int)))))
theorem laws_szNeed.calls (a2 a3 : ByteArray) (a1 r : Int) (w : World) (h : laws_szNeed.f a2 a3 a1 = some r) :
  Calls Tryz.prog 9 #[.agg #[.string a2, .string a3], .int .i64 a1] w fun e w' => e = .returned (.int .i64 r) ∧ Below w.heap.size w w' := by
 have a6 := Tryz.underlying23
 have HB := zA (Below.refl w.heap.size w)
 unfold laws_szNeed.f at h
 have H := h
 clear h
 go_enter Tryz.func9, Tryz.ntmps9
 go_upto_if 11 with (first | ((with_reducible refine zd 2 ?_); refine ze 2 23 #[.string a2, .string a3] ?_; intro a7 hg w4 hbox hb; have a5 := zA (hbox); have a8 := zi HB hg; have a9 := zi HB hg; replace HB := zA (below_step (zB) hb); clear hb hbox hg; obtain ⟨b0, b1, b2, b3⟩ := ze2 a5.out))
 (try simp only [Act.put, zT])
 replace H := zI0 H
 rcases H with ⟨a0, H⟩ | ⟨a0, H⟩
 ·obtain rfl := Option.some.inj H
  (try simp only [a0])
  go_wp2
  go_ret
  exact ⟨zE, zW HB.out⟩
 ·replace H := zI0 H
  rcases H with ⟨a4, H⟩ | ⟨a4, H⟩
  ·obtain rfl := Option.some.inj H
   (try simp only [a0, a4])
   go_wp2
   go_ret
   exact ⟨zE, zW HB.out⟩
  ·obtain rfl := Option.some.inj H
   (try simp only [a0, a4])
   go_wp2
   go_ret
   exact ⟨zE, zW HB.out⟩
/-! ### laws_szNeedS: function 51 -/
mutual
def laws_szNeedS.j0 : Nat → List (S23) → Int → Option (Int)
 | 0, _, _ => none
 | k + 1, x0, x1 => laws_szNeedS.l0 k x0 x1 0
def laws_szNeedS.l0 : Nat → List (S23) → Int → Int → Option (Int)
 | 0, _, _, _ => none
 | k + 1, x0, x1, x5 => if x5 < (x0.length : Int) then (if 0 ≤ x5 then ((laws_szNeed.f ((rd_T23 x0 x5).f0) ((rd_T23 x0 x5).f1) x1).bind fun a0 => (if a0 < 0 then (some (-1)) else (laws_szNeedS.l0 k x0 a0 (wrap64 (x5 + 1))))) else (none)) else (some x1)
end
def laws_szNeedS.f (k : Nat) (l0 : List (S23)) (a1 : Int) : Option (Int) := if (wrap64 (a1 - (l0.length : Int))) < 0 then (some (-1)) else (laws_szNeedS.j0 k l0 (wrap64 (a1 - (l0.length : Int))))
theorem laws_szNeedS.calls (k : Nat) (A0 : Option Addr) (c0 : Nat) (l0 : List (S23)) (a1 r : Int) (w : World) (b1 : Kd.C k23 w A0 l0.length l0) (b2 : l0.length ≤ c0) (h : laws_szNeedS.f k l0 a1 = some r) :
  Calls Tryz.prog 51 #[.slice A0 l0.length c0, .int .i64 a1] w fun e w' => e = .returned (.int .i64 r) ∧ Below w.heap.size w w' := by
 have c1 := Tryz.underlying23
 have b3 := Aside0.mk b1
 have c2 := Aside0.mk b2
 clear b1 b2
 have HB := zA (Below.refl w.heap.size w)
 unfold laws_szNeedS.f at h
 have H := h
 clear h
 have a8 := Aside0.mk H
 clear H
 go_enter Tryz.func51, Tryz.ntmps51
 go_upto_if 11 with (fail)
 go_cut [] (fun wc => ∃ (kq : Nat), Aside0 (laws_szNeedS.j0 kq l0 (wrap64 (a1 - (l0.length : Int))) = some r) ∧ Aside0 (kq ≤ k) ∧ Aside0 (Below w.heap.size w wc))
 case first =>
  have H := a8.out
  clear a8
  replace H := zI0 H
  rcases H with ⟨a2, H⟩ | ⟨a2, H⟩
  ·(first | rw [a2] | (simp only [i64_w, i32_w]; rw [a2]) | skip)
   obtain rfl := Option.some.inj H
   go_wp2
   go_ret
   exact ⟨zE, zB⟩
  ·(first | rw [a2] | (simp only [i64_w, i32_w]; rw [a2]) | skip)
   have H' := Aside0.mk H
   clear H
   go_wp2
   go_meet
   case rel => exact ⟨_, (by first | exact H' | (subst_vars; exact H')), ⟨by first | omega | exact Nat.le_refl _⟩, ⟨zB⟩⟩
 case rest =>
  clear a8
  try clear p2
  try clear c4
  try clear a2
  obtain ⟨kq, HA, b4, HB⟩ := hcut
  cases kq with
  | zero => exact absurd HA.out (by simp [laws_szNeedS.j0])
  | succ b5 =>
   have H := HA.out
   clear HA
   simp only [laws_szNeedS.j0] at H
   have H' := Aside0.mk H
   clear H
   go_wp2
   go_loopg [1, 5] b5 (fun kq v1 v5 w' => ∃ (a3 : Int) (a0 : Int), v1 = .int .i64 a3 ∧ v5 = .int .i64 a0 ∧ Aside0 (laws_szNeedS.l0 kq l0 a3 a0 = some r) ∧ Aside0 (kq ≤ b5) ∧ Aside0 (Below w.heap.size w w'))
   case atStart => exact ⟨((wrap64 (a1 - (l0.length : Int)))), (0), zS, zS, H', ⟨Nat.le_refl _⟩, ⟨zB⟩⟩
   case round =>
    clear H'
    try clear p2
    try clear c4
    try clear a2
    try clear p2
    obtain ⟨a3, a0, rfl, rfl, HA, b6, HB⟩ := hrel
    cases gk with
    | zero => exact absurd HA.out (by simp [laws_szNeedS.l0])
    | succ k2 =>
     have H := HA.out
     clear HA
     simp only [laws_szNeedS.l0] at H
     replace H := zI0 H
     rcases H with ⟨b7, H⟩ | ⟨b7, H⟩
     ·replace H := zD0 H
      obtain ⟨c3, H⟩ := H
      replace H := zj H
      obtain ⟨a9, A7, H⟩ := H
      try dsimp only at H
      replace H := zI0 H
      rcases H with ⟨b8, H⟩ | ⟨b8, H⟩
      ·obtain rfl := Option.some.inj H
       have a4 : 0 ≤ (a0 : Int) := zD
       have a5 : a0 < (l0.length : Int) := zD
       obtain ⟨b9, b0, a6, a7⟩ := at_T23 b3.out a0 a4 a5
       cases b0
       replace a6 := zx HB a6
       replace a7 := zx HB a7
       replace a4 := eq_true a4
       replace a5 := eq_true a5
       go_wp2_with (first | ((with_reducible refine zq 9 ?_); refine zg (some 23) Tryz.func9 #[.agg #[.string ((rd_T23 l0 a0).f0), .string ((rd_T23 l0 a0).f1)], .int .i64 a3] ?_; (with_reducible refine (laws_szNeed.calls ((rd_T23 l0 a0).f0) ((rd_T23 l0 a0).f1) a3 a9 _ A7.out).mono ?_); rintro e w9 ⟨rfl, hb⟩; refine ⟨_, rfl, ?_⟩; replace HB := zA (below_step (zB) hb); (try clear hb)))
       go_ret
       exact ⟨zE, zB⟩
      ·have H' := Aside0.mk H
       clear H
       have a4 : 0 ≤ (a0 : Int) := zD
       have a5 : a0 < (l0.length : Int) := zD
       obtain ⟨b9, b0, a6, a7⟩ := at_T23 b3.out a0 a4 a5
       cases b0
       replace a6 := zx HB a6
       replace a7 := zx HB a7
       replace a4 := eq_true a4
       replace a5 := eq_true a5
       go_wp2_with (first | ((with_reducible refine zq 9 ?_); refine zg (some 23) Tryz.func9 #[.agg #[.string ((rd_T23 l0 a0).f0), .string ((rd_T23 l0 a0).f1)], .int .i64 a3] ?_; (with_reducible refine (laws_szNeed.calls ((rd_T23 l0 a0).f0) ((rd_T23 l0 a0).f1) a3 a9 _ A7.out).mono ?_); rintro e c5 ⟨rfl, hb⟩; refine ⟨_, rfl, ?_⟩; replace HB := zA (below_step (zB) hb); (try clear hb)))
       go_roundg k2
       case measure => have := b4.out; have := b6.out; omega
       case rel => exact ⟨(a9), (wrap64 (a0 + 1)), zS, zS, H', ⟨by have := b4.out; have := b6.out; omega⟩, ⟨zB⟩⟩
     ·obtain rfl := Option.some.inj H
      go_wp2
      go_ret
      exact ⟨zE, zB⟩
/-! ### laws_szCmd: function 106 -/
def laws_szCmd.f (k : Nat) (a0 : ByteArray) (a3 : List ByteArray) (a1 : Int) : Option (Int) := if (wrap64 (a1 - (a0.size : Int))) < 0 then (some (-1)) else ((laws_szStringS.f k a3 (wrap64 (a1 - (a0.size : Int)))).bind fun a2 => (if a2 < 0 then (some (-1)) else (some a2)))
theorem laws_szCmd.calls (k : Nat) (a3 : ByteArray) (a4 : Option Addr) (a5 : Nat) (a0 : List ByteArray) (a1 r : Int) (w : World) (a7 : Kd.C Kd.string w a4 a0.length a0) (a8 : a0.length ≤ a5) (h : laws_szCmd.f k a3 a0 a1 = some r) :
  Calls Tryz.prog 106 #[.agg #[.string a3, .slice a4 a0.length a5], .int .i64 a1] w fun e w' => e = .returned (.int .i64 r) ∧ Below w.heap.size w w' := by
 have b3 := Tryz.underlying134
 have a9 := Aside0.mk a7
 have b0 := Aside0.mk a8
 clear a7 a8
 have HB := zA (Below.refl w.heap.size w)
 unfold laws_szCmd.f at h
 have H := h
 clear h
 go_enter Tryz.func106, Tryz.ntmps106
 go_upto_if 11 with (first | ((with_reducible refine zd 2 ?_); refine ze 2 134 #[.string a3, .slice a4 a0.length a5] ?_; intro b4 hg w4 hbox hb; have b1 := zA (hbox); have b5 := zi HB hg; have b6 := zi HB hg; replace HB := zA (below_step (zB) hb); clear hb hbox hg; obtain ⟨b7, b8, b9, c0⟩ := ze2 b1.out))
 (try simp only [Act.put, zT])
 replace H := zI0 H
 rcases H with ⟨a2, H⟩ | ⟨a2, H⟩
 ·obtain rfl := Option.some.inj H
  (try simp only [a2])
  go_wp2
  go_ret
  exact ⟨zE, zW HB.out⟩
 ·replace H := zj H
  obtain ⟨b2, A6, H⟩ := H
  try dsimp only at H
  (try simp only [a2, a2])
  go_upto_if 17 with (first | ((with_reducible refine zq 48 ?_); refine zg (some 15) Tryz.func48 #[.slice a4 a0.length a5, .int .i64 (wrap64 (a1 - (a3.size : Int)))] ?_; (with_reducible refine (laws_szStringS.calls k _ _ a0 (wrap64 (a1 - (a3.size : Int))) b2 _ ?side1 ?side2 A6.out).mono ?_); (case side1 => exact zC (Kd.C_below a9.out HB.out)); (case side2 => exact b0.out); rintro e w' ⟨rfl, ⟨nd, rfl⟩⟩; refine ⟨_, rfl, ?_⟩))
  (try simp only [Act.put, zT])
  replace H := zI0 H
  rcases H with ⟨a6, H⟩ | ⟨a6, H⟩
  ·obtain rfl := Option.some.inj H
   (try simp only [a2, a2, a6])
   go_wp2
   go_ret
   exact ⟨zE, zW HB.out⟩
  ·obtain rfl := Option.some.inj H
   (try simp only [a2, a2, a6])
   go_wp2
   go_ret
   exact ⟨zE, zW HB.out⟩
/-! ### laws_szCmdS: function 52 -/
mutual
def laws_szCmdS.j0 : Nat → List (S134) → Int → Option (Int)
 | 0, _, _ => none
 | k + 1, x0, x1 => laws_szCmdS.l0 k x0 x1 0
def laws_szCmdS.l0 : Nat → List (S134) → Int → Int → Option (Int)
 | 0, _, _, _ => none
 | k + 1, x0, x1, x5 => if x5 < (x0.length : Int) then (if 0 ≤ x5 then ((laws_szCmd.f k ((rd_T134 x0 x5).f0) ((rd_T134 x0 x5).f1) x1).bind fun a0 => (if a0 < 0 then (some (-1)) else (laws_szCmdS.l0 k x0 a0 (wrap64 (x5 + 1))))) else (none)) else (some x1)
end
def laws_szCmdS.f (k : Nat) (l0 : List (S134)) (a1 : Int) : Option (Int) := if (wrap64 (a1 - (l0.length : Int))) < 0 then (some (-1)) else (laws_szCmdS.j0 k l0 (wrap64 (a1 - (l0.length : Int))))
theorem laws_szCmdS.calls (k : Nat) (A0 : Option Addr) (c0 : Nat) (l0 : List (S134)) (a1 r : Int) (w : World) (b7 : Kd.C k134 w A0 l0.length l0) (b8 : l0.length ≤ c0) (h : laws_szCmdS.f k l0 a1 = some r) :
  Calls Tryz.prog 52 #[.slice A0 l0.length c0, .int .i64 a1] w fun e w' => e = .returned (.int .i64 r) ∧ Below w.heap.size w w' := by
 have c8 := Tryz.underlying134
 have b9 := Aside0.mk b7
 have c9 := Aside0.mk b8
 clear b7 b8
 have HB := zA (Below.refl w.heap.size w)
 unfold laws_szCmdS.f at h
 have H := h
 clear h
 have b0 := Aside0.mk H
 clear H
 go_enter Tryz.func52, Tryz.ntmps52
 go_upto_if 11 with (fail)
 go_cut [] (fun wc => ∃ (kq : Nat), Aside0 (laws_szCmdS.j0 kq l0 (wrap64 (a1 - (l0.length : Int))) = some r) ∧ Aside0 (kq ≤ k) ∧ Aside0 (Below w.heap.size w wc))
 case first =>
  have H := b0.out
  clear b0
  replace H := zI0 H
  rcases H with ⟨a2, H⟩ | ⟨a2, H⟩
  ·(first | rw [a2] | (simp only [i64_w, i32_w]; rw [a2]) | skip)
   obtain rfl := Option.some.inj H
   go_wp2
   go_ret
   exact ⟨zE, zB⟩
  ·(first | rw [a2] | (simp only [i64_w, i32_w]; rw [a2]) | skip)
   have H' := Aside0.mk H
   clear H
   go_wp2
   go_meet
   case rel => exact ⟨_, (by first | exact H' | (subst_vars; exact H')), ⟨by first | omega | exact Nat.le_refl _⟩, ⟨zB⟩⟩
 case rest =>
  clear b0
  try clear p2
  try clear c4
  try clear a2
  obtain ⟨kq, HA, c1, HB⟩ := hcut
  cases kq with
  | zero => exact absurd HA.out (by simp [laws_szCmdS.j0])
  | succ c2 =>
   have H := HA.out
   clear HA
   simp only [laws_szCmdS.j0] at H
   have H' := Aside0.mk H
   clear H
   go_wp2
   go_loopg [1, 5] c2 (fun kq v1 v5 w' => ∃ (a3 : Int) (a0 : Int), v1 = .int .i64 a3 ∧ v5 = .int .i64 a0 ∧ Aside0 (laws_szCmdS.l0 kq l0 a3 a0 = some r) ∧ Aside0 (kq ≤ c2) ∧ Aside0 (Below w.heap.size w w'))
   case atStart => exact ⟨((wrap64 (a1 - (l0.length : Int)))), (0), zS, zS, H', ⟨Nat.le_refl _⟩, ⟨zB⟩⟩
   case round =>
    clear H'
    try clear p2
    try clear c4
    try clear a2
    try clear p2
    obtain ⟨a3, a0, rfl, rfl, HA, c3, HB⟩ := hrel
    cases gk with
    | zero => exact absurd HA.out (by simp [laws_szCmdS.l0])
    | succ k2 =>
     have H := HA.out
     clear HA
     simp only [laws_szCmdS.l0] at H
     replace H := zI0 H
     rcases H with ⟨c5, H⟩ | ⟨c5, H⟩
     ·replace H := zD0 H
      obtain ⟨d0, H⟩ := H
      replace H := zj H
      obtain ⟨b1, A7, H⟩ := H
      try dsimp only at H
      replace H := zI0 H
      rcases H with ⟨c6, H⟩ | ⟨c6, H⟩
      ·obtain rfl := Option.some.inj H
       have a4 : 0 ≤ (a0 : Int) := zD
       have a5 : a0 < (l0.length : Int) := zD
       obtain ⟨c7, b2, b3, b4, a6, a7, a8, a9⟩ := at_T134 b9.out a0 a4 a5
       cases b4
       replace a6 := zx HB a6
       replace a7 := zx HB a7
       have b5 := Aside0.mk a9
       have b6 := Aside0.mk a8
       clear a9 a8
       replace a4 := eq_true a4
       replace a5 := eq_true a5
       go_wp2_with (first | ((with_reducible refine zq 106 ?_); refine zg (some 23) Tryz.func106 #[.agg #[.string ((rd_T134 l0 a0).f0), .slice b2 ((rd_T134 l0 a0).f1).length b3], .int .i64 a3] ?_; (with_reducible refine (laws_szCmd.calls k2 ((rd_T134 l0 a0).f0) _ _ ((rd_T134 l0 a0).f1) a3 b1 _ ?side1 ?side2 A7.out).mono ?_); (case side1 => exact zC (Kd.C_below b5.out HB.out)); (case side2 => exact b6.out); rintro e w9 ⟨rfl, hb⟩; refine ⟨_, rfl, ?_⟩; replace HB := zA (below_step (zB) hb); (try clear hb)))
       go_ret
       exact ⟨zE, zB⟩
      ·have H' := Aside0.mk H
       clear H
       have a4 : 0 ≤ (a0 : Int) := zD
       have a5 : a0 < (l0.length : Int) := zD
       obtain ⟨c7, b2, b3, b4, a6, a7, a8, a9⟩ := at_T134 b9.out a0 a4 a5
       cases b4
       replace a6 := zx HB a6
       replace a7 := zx HB a7
       have b5 := Aside0.mk a9
       have b6 := Aside0.mk a8
       clear a9 a8
       replace a4 := eq_true a4
       replace a5 := eq_true a5
       go_wp2_with (first | ((with_reducible refine zq 106 ?_); refine zg (some 23) Tryz.func106 #[.agg #[.string ((rd_T134 l0 a0).f0), .slice b2 ((rd_T134 l0 a0).f1).length b3], .int .i64 a3] ?_; (with_reducible refine (laws_szCmd.calls k2 ((rd_T134 l0 a0).f0) _ _ ((rd_T134 l0 a0).f1) a3 b1 _ ?side1 ?side2 A7.out).mono ?_); (case side1 => exact zC (Kd.C_below b5.out HB.out)); (case side2 => exact b6.out); rintro e d1 ⟨rfl, hb⟩; refine ⟨_, rfl, ?_⟩; replace HB := zA (below_step (zB) hb); (try clear hb)))
       go_roundg k2
       case measure => have := c1.out; have := c3.out; omega
       case rel => exact ⟨(b1), (wrap64 (a0 + 1)), zS, zS, H', ⟨by have := c1.out; have := c3.out; omega⟩, ⟨zB⟩⟩
     ·obtain rfl := Option.some.inj H
      go_wp2
      go_ret
      exact ⟨zE, zB⟩
/-! ### laws_szPack: function 16 -/
mutual
def laws_szPack.j0 : Nat → Int → ByteArray → List ByteArray → List (S23) → List (S134) → Option (Int)
 | 0, _, _, _, _, _ => none
 | k + 1, x1, a3, a0, a1, a2 => (laws_szStringS.f k a0 x1).bind fun a4 => (if a4 < 0 then (some (-1)) else (laws_szPack.j1 k a4 a3 a0 a1 a2))
def laws_szPack.j1 : Nat → Int → ByteArray → List ByteArray → List (S23) → List (S134) → Option (Int)
 | 0, _, _, _, _, _ => none
 | k + 1, x1, a3, a0, a1, a2 => (laws_szNeedS.f k a1 x1).bind fun a5 => (if a5 < 0 then (some (-1)) else ((laws_szCmdS.f k a2 a5).bind fun a6 => (if a6 < 0 then (some (-1)) else (some a6))))
end
def laws_szPack.f (k : Nat) (a0 : ByteArray) (a2 : List ByteArray) (a3 : List (S23)) (a4 : List (S134)) (a1 : Int) : Option (Int) := if (wrap64 (a1 - (a0.size : Int))) < 0 then (some (-1)) else (laws_szPack.j0 k (wrap64 (a1 - (a0.size : Int))) a0 a2 a3 a4)
theorem laws_szPack.calls (k : Nat) (a5 : ByteArray) (b3 : Option Addr) (b4 : Nat) (a4 : List ByteArray) (a6 : Option Addr) (a7 : Nat) (a2 : List (S23)) (a9 : Option Addr) (b0 : Nat) (a3 : List (S134)) (a1 r : Int) (w : World) (c3 : Kd.C Kd.string w b3 a4.length a4) (c5 : a4.length ≤ b4) (c7 : Kd.C k23 w a6 a2.length a2) (c8 : a2.length ≤ a7) (c9 : Kd.C k134 w a9 a3.length a3) (d0 : a3.length ≤ b0) (h : laws_szPack.f k a5 a4 a2 a3 a1 = some r) :
  Calls Tryz.prog 16 #[.agg #[.string a5, .slice b3 a4.length b4, .slice a6 a2.length a7, .slice a9 a3.length b0], .int .i64 a1] w fun e w' => e = .returned (.int .i64 r) ∧ Below w.heap.size w w' := by
 have f8 := Tryz.underlying39
 have e5 := Aside0.mk c3
 have e6 := Aside0.mk c5
 clear c3 c5
 have b7 := Aside0.mk c7
 have b8 := Aside0.mk c8
 clear c7 c8
 have d1 := Aside0.mk c9
 have d2 := Aside0.mk d0
 clear c9 d0
 have HB := zA (Below.refl w.heap.size w)
 unfold laws_szPack.f at h
 have H := h
 clear h
 have b9 := Aside0.mk H
 clear H
 go_enter Tryz.func16, Tryz.ntmps16
 go_upto_if 11 with (first | ((with_reducible refine zd 2 ?_); refine ze 2 39 #[.string a5, .slice b3 a4.length b4, .slice a6 a2.length a7, .slice a9 a3.length b0] ?_; intro d3 hg w4 hbox hb; have a0 := zA (hbox); have f9 := zi HB hg; have g0 := zi HB hg; replace HB := zA (below_step (zB) hb); clear hb hbox hg; obtain ⟨d4, d5, d6, d7, d8, d9, e0, e1⟩ := ze4 a0.out))
 (try simp only [Act.put, zT])
 go_cut [] (fun wc => ∃ (kq : Nat), Aside0 (laws_szPack.j0 kq (wrap64 (a1 - (a5.size : Int))) a5 a4 a2 a3 = some r) ∧ Aside0 (kq ≤ k) ∧ Aside0 (wc.heap[d3]? = some (.cells #[.string a5, (.slice b3 a4.length b4), (.slice a6 a2.length a7), (.slice a9 a3.length b0)] 39 (0, 0))) ∧ Aside0 (Below w.heap.size w wc))
 case first =>
  have H := b9.out
  clear b9
  replace H := zI0 H
  rcases H with ⟨b1, H⟩ | ⟨b1, H⟩
  ·(first | rw [b1] | (simp only [i64_w, i32_w]; rw [b1]) | skip)
   obtain rfl := Option.some.inj H
   go_wp2
   go_ret
   exact ⟨zE, zW HB.out⟩
  ·(first | rw [b1] | (simp only [i64_w, i32_w]; rw [b1]) | skip)
   have H' := Aside0.mk H
   clear H
   go_wp2
   go_meet
   case rel => exact ⟨_, (by first | exact H' | (subst_vars; exact H')), ⟨by first | omega | exact Nat.le_refl _⟩, ⟨zK a0.out⟩, ⟨zW HB.out⟩⟩
 case rest =>
  clear b9
  try clear c1
  try clear p2
  try clear c6
  try clear b1
  try clear p6
  try clear d4 d5 d6 d7 d8 d9 e0 e1
  obtain ⟨kq, HA, e7, a0, HB⟩ := hcut
  cases kq with
  | zero => exact absurd HA.out (by simp [laws_szPack.j0])
  | succ e2 =>
   have H := HA.out
   clear HA
   simp only [laws_szPack.j0] at H
   replace H := zj H
   obtain ⟨a8, A7, H⟩ := H
   try dsimp only at H
   have c0 := Aside0.mk H
   clear H
   obtain ⟨e8, e9, f0, f1, f2, f3, f4, f5⟩ := ze4 a0.out
   go_upto_if 17 with (first | ((with_reducible refine zq 48 ?_); refine zg (some 15) Tryz.func48 #[.slice b3 a4.length b4, .int .i64 (wrap64 (a1 - (a5.size : Int)))] ?_; (with_reducible refine (laws_szStringS.calls e2 _ _ a4 (wrap64 (a1 - (a5.size : Int))) a8 _ ?side1 ?side2 A7.out).mono ?_); (case side1 => exact zC (Kd.C_below e5.out HB.out)); (case side2 => exact e6.out); rintro e w' ⟨rfl, ⟨nd, rfl⟩⟩; refine ⟨_, rfl, ?_⟩))
   (try simp only [Act.put, zT])
   go_cut [] (fun wc => ∃ (kq : Nat), Aside0 (laws_szPack.j1 kq a8 a5 a4 a2 a3 = some r) ∧ Aside0 (kq ≤ e2) ∧ Aside0 (wc.heap[d3]? = some (.cells #[.string a5, (.slice b3 a4.length b4), (.slice a6 a2.length a7), (.slice a9 a3.length b0)] 39 (0, 0))) ∧ Aside0 (Below w.heap.size w wc))
   case first =>
    have H := c0.out
    clear c0
    replace H := zI0 H
    rcases H with ⟨b5, H⟩ | ⟨b5, H⟩
    ·(first | rw [b5] | (simp only [i64_w, i32_w]; rw [b5]) | skip)
     obtain rfl := Option.some.inj H
     go_wp2
     go_ret
     exact ⟨zE, zW HB.out⟩
    ·(first | rw [b5] | (simp only [i64_w, i32_w]; rw [b5]) | skip)
     have H' := Aside0.mk H
     clear H
     go_wp2
     go_meet
     case rel => exact ⟨_, (by first | exact H' | (subst_vars; exact H')), ⟨by have := e7.out; first | omega | exact Nat.le_refl _⟩, ⟨zK a0.out⟩, ⟨zW HB.out⟩⟩
   case rest =>
    clear c0
    try clear c1
    try clear p2
    try clear c4
    try clear c6
    try clear b1
    try clear p6
    try clear c10
    try clear b5
    try clear d4 d5 d6 d7 d8 d9 e0 e1
    try clear e8 e9 f0 f1 f2 f3 f4 f5
    try clear p2
    try clear p6
    obtain ⟨kq, HA, g1, a0, HB⟩ := hcut
    cases kq with
    | zero => exact absurd HA.out (by simp [laws_szPack.j1])
    | succ b6 =>
     have H := HA.out
     clear HA
     simp only [laws_szPack.j1] at H
     replace H := zj H
     obtain ⟨b2, c2, H⟩ := H
     try dsimp only at H
     replace H := zI0 H
     rcases H with ⟨f6, H⟩ | ⟨f6, H⟩
     ·obtain rfl := Option.some.inj H
      obtain ⟨g2, g3, g4, g5, g6, g7, g8, g9⟩ := ze4 a0.out
      go_wp2_with (first | ((with_reducible refine zq 51 ?_); refine zg (some 21) Tryz.func51 #[.slice a6 a2.length a7, .int .i64 a8] ?_; (with_reducible refine (laws_szNeedS.calls b6 _ _ a2 a8 b2 _ ?side1 ?side2 c2.out).mono ?_); (case side1 => exact zC (Kd.C_below b7.out HB.out)); (case side2 => exact b8.out); rintro e h0 ⟨rfl, hb⟩; refine ⟨_, rfl, ?_⟩; replace a0 := zb a0 hb; replace HB := zh HB hb; (try clear hb)))
      go_ret
      exact ⟨zE, zW HB.out⟩
     ·replace H := zj H
      obtain ⟨e3, e4, H⟩ := H
      try dsimp only at H
      replace H := zI0 H
      rcases H with ⟨f7, H⟩ | ⟨f7, H⟩
      ·obtain rfl := Option.some.inj H
       obtain ⟨h1, h2, h3, h4, h5, h6, h7, h8⟩ := ze4 a0.out
       go_wp2_with (first | ((with_reducible refine zq 51 ?_); refine zg (some 21) Tryz.func51 #[.slice a6 a2.length a7, .int .i64 a8] ?_; (with_reducible refine (laws_szNeedS.calls b6 _ _ a2 a8 b2 _ ?side1 ?side2 c2.out).mono ?_); (case side1 => exact zC (Kd.C_below b7.out HB.out)); (case side2 => exact b8.out); rintro e h9 ⟨rfl, hb⟩; refine ⟨_, rfl, ?_⟩; replace a0 := zb a0 hb; replace HB := zh HB hb; (try clear hb); obtain ⟨i0, i1, i2, i3, i4, i5, i6, i7⟩ := ze4 a0.out) | ((with_reducible refine zq 52 ?_); refine zg (some 27) Tryz.func52 #[.slice a9 a3.length b0, .int .i64 b2] ?_; (with_reducible refine (laws_szCmdS.calls b6 _ _ a3 b2 e3 _ ?side1 ?side2 e4.out).mono ?_); (case side1 => exact zC (Kd.C_below d1.out HB.out)); (case side2 => exact d2.out); rintro e i8 ⟨rfl, hb⟩; refine ⟨_, rfl, ?_⟩; replace a0 := zb a0 hb; replace HB := zh HB hb; (try clear hb)))
       go_ret
       exact ⟨zE, zW HB.out⟩
      ·obtain rfl := Option.some.inj H
       obtain ⟨i9, j2, j3, j4, j5, j6, j7, j8⟩ := ze4 a0.out
       go_wp2_with (first | ((with_reducible refine zq 51 ?_); refine zg (some 21) Tryz.func51 #[.slice a6 a2.length a7, .int .i64 a8] ?_; (with_reducible refine (laws_szNeedS.calls b6 _ _ a2 a8 b2 _ ?side1 ?side2 c2.out).mono ?_); (case side1 => exact zC (Kd.C_below b7.out HB.out)); (case side2 => exact b8.out); rintro e j9 ⟨rfl, hb⟩; refine ⟨_, rfl, ?_⟩; replace a0 := zb a0 hb; replace HB := zh HB hb; (try clear hb); obtain ⟨k0, k1, k2, k3, k4, k5, k6, k7⟩ := ze4 a0.out) | ((with_reducible refine zq 52 ?_); refine zg (some 27) Tryz.func52 #[.slice a9 a3.length b0, .int .i64 b2] ?_; (with_reducible refine (laws_szCmdS.calls b6 _ _ a3 b2 e3 _ ?side1 ?side2 e4.out).mono ?_); (case side1 => exact zC (Kd.C_below d1.out HB.out)); (case side2 => exact d2.out); rintro e k8 ⟨rfl, hb⟩; refine ⟨_, rfl, ?_⟩; replace a0 := zb a0 hb; replace HB := zh HB hb; (try clear hb)))
       go_ret
       exact ⟨zE, zW HB.out⟩
/-! ### spec_l1In: function 104 -/
def spec_l1In.f (a0 a1 a2 : Int) : Option (Bool) := if a0 ≥ a1 then (some (decide (a0 ≤ a2))) else (some false)
theorem spec_l1In.calls (a0 a1 a2 : Int) (r : Bool) (w : World) (h : spec_l1In.f a0 a1 a2 = some r) :
  Calls Tryz.prog 104 #[.int .i64 a0, .int .i64 a1, .int .i64 a2] w fun e w' => e = .returned (.bool r) ∧ Drawn0 w w' := by
 unfold spec_l1In.f at h
 have H := h
 clear h
 replace H := zI1 H
 rcases H with ⟨c4, H⟩ | ⟨c4, H⟩
 ·have a3 : decide (a1 ≤ a0) = true := decide_eq_true c4
  clear c4
  obtain rfl := Option.some.inj H
  go_enter Tryz.func104, Tryz.ntmps104
  go_wp2
  go_ret
  exact ⟨by first | rfl | (simp; done) | (simp [*]; done) | (simp; rw [Bool.eq_iff_iff]; simp; done), by repeat (first | exact Drawn0.refl _ | apply Drawn0.step)⟩
 ·have a3 : decide (a1 ≤ a0) = false := decide_eq_false c4
  clear c4
  obtain rfl := Option.some.inj H
  go_enter Tryz.func104, Tryz.ntmps104
  go_wp2
  go_ret
  exact ⟨by first | rfl | (simp; done) | (simp [*]; done) | (simp; rw [Bool.eq_iff_iff]; simp; done), by repeat (first | exact Drawn0.refl _ | apply Drawn0.step)⟩
/-! ### spec_l1Small: function 107 -/
def spec_l1Small.f (a0 : Int) : Option (Bool) := (spec_l1In.f (wrap64 (a0)) 97 122).bind fun a1 => (some a1)
theorem spec_l1Small.calls (a0 : Int) (r : Bool) (w : World) (h : spec_l1Small.f a0 = some r) :
  Calls Tryz.prog 107 #[.int .u8 a0] w fun e w' => e = .returned (.bool r) ∧ Drawn0 w w' := by
 unfold spec_l1Small.f at h
 have H := h
 clear h
 replace H := zj H
 obtain ⟨a1, A2, H⟩ := H
 try dsimp only at H
 obtain rfl := Option.some.inj H
 go_enter Tryz.func107, Tryz.ntmps107
 go_wp2_with (first | ((with_reducible refine zq 104 ?_); refine zg (some 5) Tryz.func104 #[.int .i64 (wrap64 (a0)), .int .i64 97, .int .i64 122] ?_; (with_reducible refine (spec_l1In.calls (wrap64 (a0)) 97 122 a1 _ A2.out).mono ?_); rintro e w' ⟨rfl, ⟨nd, rfl⟩⟩; refine ⟨_, rfl, ?_⟩))
 go_ret
 exact ⟨by first | rfl | (simp; done) | (simp [*]; done) | (simp; rw [Bool.eq_iff_iff]; simp; done), by repeat (first | exact Drawn0.refl _ | apply Drawn0.step)⟩
/-! ### spec_l1Digit: function 108 -/
def spec_l1Digit.f (a0 : Int) : Option (Bool) := (spec_l1In.f (wrap64 (a0)) 48 57).bind fun a1 => (some a1)
theorem spec_l1Digit.calls (a0 : Int) (r : Bool) (w : World) (h : spec_l1Digit.f a0 = some r) :
  Calls Tryz.prog 108 #[.int .u8 a0] w fun e w' => e = .returned (.bool r) ∧ Drawn0 w w' := by
 unfold spec_l1Digit.f at h
 have H := h
 clear h
 replace H := zj H
 obtain ⟨a1, A2, H⟩ := H
 try dsimp only at H
 obtain rfl := Option.some.inj H
 go_enter Tryz.func108, Tryz.ntmps108
 go_wp2_with (first | ((with_reducible refine zq 104 ?_); refine zg (some 5) Tryz.func104 #[.int .i64 (wrap64 (a0)), .int .i64 48, .int .i64 57] ?_; (with_reducible refine (spec_l1In.calls (wrap64 (a0)) 48 57 a1 _ A2.out).mono ?_); rintro e w' ⟨rfl, ⟨nd, rfl⟩⟩; refine ⟨_, rfl, ?_⟩))
 go_ret
 exact ⟨by first | rfl | (simp; done) | (simp [*]; done) | (simp; rw [Bool.eq_iff_iff]; simp; done), by repeat (first | exact Drawn0.refl _ | apply Drawn0.step)⟩
end Go.Proofs.YtpcdhoeoefoeoaaGreatDoor.PGC
