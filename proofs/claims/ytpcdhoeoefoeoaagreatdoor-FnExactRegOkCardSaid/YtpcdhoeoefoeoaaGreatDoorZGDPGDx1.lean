/- The walks of the functions that these laws reach, and what each comes to: printed by this session's program. -/
import Derived.Test.YtpcdhoeoefoeoaaGreatDoorZGDPGDx0
import Derived.Test.YtpcdhoeoefoeoaaGreatDoorZGDSays
namespace Go.Proofs.YtpcdhoeoefoeoaaGreatDoor.PGD
open Go.RowKit YtpcdhoeoefoeoaaGreatDoorW.PrintWords YtpcdhoeoefoeoaaGreatDoorW.PrintLast YtpcdhoeoefoeoaaGreatDoorW.PrintMore
attribute [local go_sem high] Mine.str_gtr Mine.str_leq Mine.str_geq
attribute [local go_sem] max2_int min2_int max_two min_two max_three min_three max_four min_four   -- for this text's walks alone
set_option linter.unusedVariables false
set_option maxHeartbeats 8000000
set_option maxRecDepth 100000
set_option linter.unusedSimpArgs false
/-! ### laws_szStringS: function 48 -/
mutual
def laws_szStringS.j0 : Nat → List ByteArray → Int → Option (Int)
 | 0, _, _ => none
 | k + 1, x0, x1 => laws_szStringS.l0 k x0 x1 0
def laws_szStringS.l0 : Nat → List ByteArray → Int → Int → Option (Int)
 | 0, _, _, _ => none
 | k + 1, x0, x1, x5 => if x5 < (x0.length : Int) then (if 0 ≤ x5 then (if (wrap64 (x1 - ((rdOf ByteArray.empty x0 x5).size : Int))) < 0 then (some (-1)) else (laws_szStringS.l0 k x0 (wrap64 (x1 - ((rdOf ByteArray.empty x0 x5).size : Int))) (wrap64 (x5 + 1)))) else (none)) else (some x1)
end
def laws_szStringS.f (k : Nat) (l0 : List ByteArray) (a1 : Int) : Option (Int) := if (wrap64 (a1 - (l0.length : Int))) < 0 then (some (-1)) else (laws_szStringS.j0 k l0 (wrap64 (a1 - (l0.length : Int))))
theorem laws_szStringS.calls (k : Nat) (A0 : Option Addr) (c0 : Nat) (l0 : List ByteArray) (a1 r : Int) (w : World) (a8 : Kd.C Kd.string w A0 l0.length l0) (a9 : l0.length ≤ c0) (h : laws_szStringS.f k l0 a1 = some r) :
  Calls Tryz.prog 48 #[.slice A0 l0.length c0, .int .i64 a1] w fun e w' => e = .returned (.int .i64 r) ∧ Drawn0 w w' := by
 have b0 := zA a8
 have b8 := zA a9
 clear a8 a9
 unfold laws_szStringS.f at h
 have H := h
 clear h
 have a6 := zA H
 clear H
 go_enter Tryz.func48, Tryz.ntmps48
 go_upto_if 11 with (fail)
 go_cut [] (fun wc => ∃ (kq : Nat), Aside0 (laws_szStringS.j0 kq l0 (wrap64 (a1 - (l0.length : Int))) = some r) ∧ Aside0 (kq ≤ k) ∧ Drawn0 w wc)
 case first =>
  have H := a6.out
  clear a6
  replace H := zI0 H
  rcases H with ⟨a2, H⟩ | ⟨a2, H⟩
  ·(first | rw [a2] | (simp only [i64_w, i32_w]; rw [a2]) | skip)
   obtain rfl := zm H
   go_wp2
   go_ret
   exact ⟨by first | rfl | (simp; done) | (simp [*]; done) | (simp; rw [Bool.eq_iff_iff]; simp; done), by repeat (first | exact Drawn0.refl _ | apply Drawn0.step)⟩
  ·(first | rw [a2] | (simp only [i64_w, i32_w]; rw [a2]) | skip)
   have H' := zA H
   clear H
   go_wp2
   go_meet
   case rel => exact ⟨_, (by first | exact H' | (subst_vars; exact H')), ⟨by first | omega | exact Nat.le_refl _⟩, by repeat (first | exact Drawn0.refl _ | apply Drawn0.step)⟩
 case rest =>
  clear a6
  try clear p2
  try clear c4
  try clear a2
  obtain ⟨kq, HA, b1, ⟨b9, rfl⟩⟩ := hcut
  cases kq with
  | zero => exact absurd HA.out (by simp [laws_szStringS.j0])
  | succ b2 =>
   have H := HA.out
   clear HA
   simp only [laws_szStringS.j0] at H
   have H' := zA H
   clear H
   go_wp2
   go_loopg [1, 5] b2 (fun kq v1 v5 w' => ∃ (a5 : Int) (a0 : Int), v1 = .int .i64 a5 ∧ v5 = .int .i64 a0 ∧ Aside0 (laws_szStringS.l0 kq l0 a5 a0 = some r) ∧ Aside0 (kq ≤ b2) ∧ Drawn0 w w')
   case atStart => exact ⟨((wrap64 (a1 - (l0.length : Int)))), (0), zS, zS, H', ⟨Nat.le_refl _⟩, by repeat (first | exact Drawn0.refl _ | apply Drawn0.step)⟩
   case round =>
    clear H'
    try clear c2
    try clear p2
    try clear c4
    try clear a2
    try clear p2
    obtain ⟨a5, a0, rfl, rfl, HA, b3, ⟨m2, rfl⟩⟩ := hrel
    cases gk with
    | zero => exact absurd HA.out (by simp [laws_szStringS.l0])
    | succ k2 =>
     have H := HA.out
     clear HA
     simp only [laws_szStringS.l0] at H
     replace H := zI0 H
     rcases H with ⟨b4, H⟩ | ⟨b4, H⟩
     ·replace H := zD0 H
      obtain ⟨c1, H⟩ := H
      replace H := zI0 H
      rcases H with ⟨b5, H⟩ | ⟨b5, H⟩
      ·obtain rfl := zm H
       have a3 : 0 ≤ (a0 : Int) := zD
       have a4 : a0 < (l0.length : Int) := zD
       obtain ⟨b6, a7, b7⟩ := Kd.at_string b0.out a0 a3 a4
       cases a7
       replace a3 := eq_true a3
       replace a4 := eq_true a4
       go_wp2
       go_ret
       exact ⟨by first | rfl | (simp; done) | (simp [*]; done) | (simp; rw [Bool.eq_iff_iff]; simp; done), by repeat (first | exact Drawn0.refl _ | apply Drawn0.step)⟩
      ·have H' := zA H
       clear H
       have a3 : 0 ≤ (a0 : Int) := zD
       have a4 : a0 < (l0.length : Int) := zD
       obtain ⟨b6, a7, b7⟩ := Kd.at_string b0.out a0 a3 a4
       cases a7
       replace a3 := eq_true a3
       replace a4 := eq_true a4
       go_wp2
       go_roundg k2
       case measure => have := b1.out; have := b3.out; omega
       case rel => exact ⟨(wrap64 (a5 - ((rdOf ByteArray.empty l0 a0).size : Int))), (wrap64 (a0 + 1)), zS, zS, H', ⟨by have := b1.out; have := b3.out; omega⟩, by repeat (first | exact Drawn0.refl _ | apply Drawn0.step)⟩
     ·obtain rfl := zm H
      go_wp2
      go_ret
      exact ⟨by first | rfl | (simp; done) | (simp [*]; done) | (simp; rw [Bool.eq_iff_iff]; simp; done), by repeat (first | exact Drawn0.refl _ | apply Drawn0.step)⟩
/-! ### laws_szVer: function 10 -/
def laws_szVer.f (k : Nat) (a3 a4 a5 : Int) (a2 : List ByteArray) (a1 : Int) : Option (Int) := (laws_szStringS.f k a2 a1).bind fun a0 => (if a0 < 0 then (some (-1)) else (some a0))
theorem laws_szVer.calls (k : Nat) (a4 a5 a6 : Int) (a2 : Option Addr) (a3 : Nat) (a0 : List ByteArray) (a1 r : Int) (w : World) (a8 : Kd.C Kd.string w a2 a0.length a0) (a9 : a0.length ≤ a3) (h : laws_szVer.f k a4 a5 a6 a0 a1 = some r) :
  Calls Tryz.prog 10 #[.agg #[.int .i64 a4, .int .i64 a5, .int .i64 a6, .slice a2 a0.length a3], .int .i64 a1] w fun e w' => e = .returned (.int .i64 r) ∧ Below w.heap.size w w' := by
 have b5 := Tryz.underlying26
 have b1 := zA a8
 have b2 := zA a9
 clear a8 a9
 have HB := zA (Below.refl w.heap.size w)
 unfold laws_szVer.f at h
 have H := h
 clear h
 replace H := Option.bind_eq_some_iff.mp H
 obtain ⟨b3, b0, H⟩ := H
 try dsimp only at H
 have A3 := zA b0
 clear b0
 go_enter Tryz.func10, Tryz.ntmps10
 go_upto_if 10 with (first | ((with_reducible refine zd 2 ?_); refine ze 2 26 #[.int .i64 a4, .int .i64 a5, .int .i64 a6, .slice a2 a0.length a3] ?_; intro b6 hg w5 hbox hb; have b4 := zA (hbox); have b7 := zi HB hg; have b8 := zi HB hg; replace HB := zA (below_step (zB) hb); clear hb hbox hg; obtain ⟨b9, c0, c1, c2, c3, c4, c5, c6⟩ := ze4 b4.out) | ((with_reducible refine zq 48 ?_); refine zg (some 8) Tryz.func48 #[.slice a2 a0.length a3, .int .i64 a1] ?_; (with_reducible refine (laws_szStringS.calls k _ _ a0 a1 b3 _ ?s1 ?s2 A3.out).mono ?_); (case s1 => exact zC (Kd.C_below b1.out HB.out)); (case s2 => exact b2.out); rintro e w' ⟨rfl, ⟨nd, rfl⟩⟩; refine ⟨_, rfl, ?_⟩))
 (try simp only [Act.put, zT])
 replace H := zI0 H
 rcases H with ⟨a7, H⟩ | ⟨a7, H⟩
 ·obtain rfl := zm H
  (try simp only [a7])
  go_wp2
  go_ret
  exact ⟨zE, zW HB.out⟩
 ·obtain rfl := zm H
  (try simp only [a7])
  go_wp2
  go_ret
  exact ⟨zE, zW HB.out⟩
/-! ### laws_szNeed: function 9 -/
def laws_szNeed.f (a0 a2 : ByteArray) (a1 : Int) : Option (Int) := if (wrap64 (a1 - (a0.size : Int))) < 0 then (some (-1)) else (if (wrap64 ((wrap64 (a1 - (a0.size : Int))) - (a2.size : Int))) < 0 then (some (-1)) else (some (wrap64 ((wrap64 (a1 - (a0.size : Int))) - (a2.size : Int)))))
theorem laws_szNeed.calls (a2 a3 : ByteArray) (a1 r : Int) (w : World) (h : laws_szNeed.f a2 a3 a1 = some r) :
  Calls Tryz.prog 9 #[.agg #[.string a2, .string a3], .int .i64 a1] w fun e w' => e = .returned (.int .i64 r) ∧ Below w.heap.size w w' := by
 have a6 := Tryz.underlying23
 have HB := zA (Below.refl w.heap.size w)
 unfold laws_szNeed.f at h
 have H := h
 clear h
 go_enter Tryz.func9, Tryz.ntmps9
 go_upto_if 11 with (first | ((with_reducible refine zd 2 ?_); refine ze 2 23 #[.string a2, .string a3] ?_; intro a7 hg w4 hbox hb; have a5 := zA (hbox); have a8 := zi HB hg; have a9 := zi HB hg; replace HB := zA (below_step (zB) hb); clear hb hbox hg; obtain ⟨b0, b1, b2, b3⟩ := ze2 a5.out))
 (try simp only [Act.put, zT])
 replace H := zI0 H
 rcases H with ⟨a0, H⟩ | ⟨a0, H⟩
 ·obtain rfl := zm H
  (try simp only [a0])
  go_wp2
  go_ret
  exact ⟨zE, zW HB.out⟩
 ·replace H := zI0 H
  rcases H with ⟨a4, H⟩ | ⟨a4, H⟩
  ·obtain rfl := zm H
   (try simp only [a0, a4])
   go_wp2
   go_ret
   exact ⟨zE, zW HB.out⟩
  ·obtain rfl := zm H
   (try simp only [a0, a4])
   go_wp2
   go_ret
   exact ⟨zE, zW HB.out⟩
/-! ### laws_szNeedS: function 51 -/
mutual
def laws_szNeedS.j0 : Nat → List (S23) → Int → Option (Int)
 | 0, _, _ => none
 | k + 1, x0, x1 => laws_szNeedS.l0 k x0 x1 0
def laws_szNeedS.l0 : Nat → List (S23) → Int → Int → Option (Int)
 | 0, _, _, _ => none
 | k + 1, x0, x1, x5 => if x5 < (x0.length : Int) then (if 0 ≤ x5 then ((laws_szNeed.f ((rd_T23 x0 x5).f0) ((rd_T23 x0 x5).f1) x1).bind fun a0 => (if a0 < 0 then (some (-1)) else (laws_szNeedS.l0 k x0 a0 (wrap64 (x5 + 1))))) else (none)) else (some x1)
end
def laws_szNeedS.f (k : Nat) (l0 : List (S23)) (a1 : Int) : Option (Int) := if (wrap64 (a1 - (l0.length : Int))) < 0 then (some (-1)) else (laws_szNeedS.j0 k l0 (wrap64 (a1 - (l0.length : Int))))
theorem laws_szNeedS.calls (k : Nat) (A0 : Option Addr) (c0 : Nat) (l0 : List (S23)) (a1 r : Int) (w : World) (b1 : Kd.C k23 w A0 l0.length l0) (b2 : l0.length ≤ c0) (h : laws_szNeedS.f k l0 a1 = some r) :
  Calls Tryz.prog 51 #[.slice A0 l0.length c0, .int .i64 a1] w fun e w' => e = .returned (.int .i64 r) ∧ Below w.heap.size w w' := by
 have c2 := Tryz.underlying23
 have b3 := zA b1
 have c3 := zA b2
 clear b1 b2
 have HB := zA (Below.refl w.heap.size w)
 unfold laws_szNeedS.f at h
 have H := h
 clear h
 have a8 := zA H
 clear H
 go_enter Tryz.func51, Tryz.ntmps51
 go_upto_if 11 with (fail)
 go_cut [] (fun wc => ∃ (kq : Nat), Aside0 (laws_szNeedS.j0 kq l0 (wrap64 (a1 - (l0.length : Int))) = some r) ∧ Aside0 (kq ≤ k) ∧ Aside0 (Below w.heap.size w wc))
 case first =>
  have H := a8.out
  clear a8
  replace H := zI0 H
  rcases H with ⟨a2, H⟩ | ⟨a2, H⟩
  ·(first | rw [a2] | (simp only [i64_w, i32_w]; rw [a2]) | skip)
   obtain rfl := zm H
   go_wp2
   go_ret
   exact ⟨zE, zB⟩
  ·(first | rw [a2] | (simp only [i64_w, i32_w]; rw [a2]) | skip)
   have H' := zA H
   clear H
   go_wp2
   go_meet
   case rel => exact ⟨_, (by first | exact H' | (subst_vars; exact H')), ⟨by first | omega | exact Nat.le_refl _⟩, ⟨zB⟩⟩
 case rest =>
  clear a8
  try clear p2
  try clear c4
  try clear a2
  obtain ⟨kq, HA, b4, HB⟩ := hcut
  cases kq with
  | zero => exact absurd HA.out (by simp [laws_szNeedS.j0])
  | succ b5 =>
   have H := HA.out
   clear HA
   simp only [laws_szNeedS.j0] at H
   have H' := zA H
   clear H
   go_wp2
   go_loopg [1, 5] b5 (fun kq v1 v5 w' => ∃ (a3 : Int) (a0 : Int), v1 = .int .i64 a3 ∧ v5 = .int .i64 a0 ∧ Aside0 (laws_szNeedS.l0 kq l0 a3 a0 = some r) ∧ Aside0 (kq ≤ b5) ∧ Aside0 (Below w.heap.size w w'))
   case atStart => exact ⟨((wrap64 (a1 - (l0.length : Int)))), (0), zS, zS, H', ⟨Nat.le_refl _⟩, ⟨zB⟩⟩
   case round =>
    clear H'
    try clear p2
    try clear c4
    try clear a2
    try clear p2
    obtain ⟨a3, a0, rfl, rfl, HA, b6, HB⟩ := hrel
    cases gk with
    | zero => exact absurd HA.out (by simp [laws_szNeedS.l0])
    | succ k2 =>
     have H := HA.out
     clear HA
     simp only [laws_szNeedS.l0] at H
     replace H := zI0 H
     rcases H with ⟨b8, H⟩ | ⟨b8, H⟩
     ·replace H := zD0 H
      obtain ⟨c5, H⟩ := H
      replace H := Option.bind_eq_some_iff.mp H
      obtain ⟨a9, b7, H⟩ := H
      try dsimp only at H
      have A7 := zA b7
      clear b7
      replace H := zI0 H
      rcases H with ⟨b9, H⟩ | ⟨b9, H⟩
      ·obtain rfl := zm H
       have a4 : 0 ≤ (a0 : Int) := zD
       have a5 : a0 < (l0.length : Int) := zD
       obtain ⟨c1, b0, a6, a7⟩ := at_T23 b3.out a0 a4 a5
       cases b0
       replace a6 := zx HB a6
       replace a7 := zx HB a7
       replace a4 := eq_true a4
       replace a5 := eq_true a5
       go_wp2_with (first | ((with_reducible refine zq 9 ?_); refine zg (some 23) Tryz.func9 #[.agg #[.string ((rd_T23 l0 a0).f0), .string ((rd_T23 l0 a0).f1)], .int .i64 a3] ?_; (with_reducible refine (laws_szNeed.calls ((rd_T23 l0 a0).f0) ((rd_T23 l0 a0).f1) a3 a9 _ A7.out).mono ?_); rintro e w9 ⟨rfl, hb⟩; refine ⟨_, rfl, ?_⟩; replace HB := zA (below_step (zB) hb); (try clear hb)))
       go_ret
       exact ⟨zE, zB⟩
      ·have H' := zA H
       clear H
       have a4 : 0 ≤ (a0 : Int) := zD
       have a5 : a0 < (l0.length : Int) := zD
       obtain ⟨c1, b0, a6, a7⟩ := at_T23 b3.out a0 a4 a5
       cases b0
       replace a6 := zx HB a6
       replace a7 := zx HB a7
       replace a4 := eq_true a4
       replace a5 := eq_true a5
       go_wp2_with (first | ((with_reducible refine zq 9 ?_); refine zg (some 23) Tryz.func9 #[.agg #[.string ((rd_T23 l0 a0).f0), .string ((rd_T23 l0 a0).f1)], .int .i64 a3] ?_; (with_reducible refine (laws_szNeed.calls ((rd_T23 l0 a0).f0) ((rd_T23 l0 a0).f1) a3 a9 _ A7.out).mono ?_); rintro e c6 ⟨rfl, hb⟩; refine ⟨_, rfl, ?_⟩; replace HB := zA (below_step (zB) hb); (try clear hb)))
       go_roundg k2
       case measure => have := b4.out; have := b6.out; omega
       case rel => exact ⟨(a9), (wrap64 (a0 + 1)), zS, zS, H', ⟨by have := b4.out; have := b6.out; omega⟩, ⟨zB⟩⟩
     ·obtain rfl := zm H
      go_wp2
      go_ret
      exact ⟨zE, zB⟩
/-! ### laws_szEntry: function 67 -/
def laws_szEntry.j0 : Nat → Int → ByteArray → Int → Int → Int → List ByteArray → List (S23) → Option (Int)
 | 0, _, _, _, _, _, _, _ => none
 | k + 1, x1, a7, a2, a3, a4, a5, a6 => (laws_szVer.f k a2 a3 a4 a5 x1).bind fun a0 => (if a0 < 0 then (some (-1)) else ((laws_szNeedS.f k a6 a0).bind fun a1 => (if a1 < 0 then (some (-1)) else (some a1))))
def laws_szEntry.f (k : Nat) (a0 : ByteArray) (a2 a3 a4 : Int) (a5 : List ByteArray) (a6 : List (S23)) (a1 : Int) : Option (Int) := if (wrap64 (a1 - (a0.size : Int))) < 0 then (some (-1)) else (laws_szEntry.j0 k (wrap64 (a1 - (a0.size : Int))) a0 a2 a3 a4 a5 a6)
theorem laws_szEntry.calls (k : Nat) (a3 : ByteArray) (a5 a6 a7 : Int) (a8 : Option Addr) (a9 : Nat) (a2 : List ByteArray) (b1 : Option Addr) (b2 : Nat) (a4 : List (S23)) (a1 r : Int) (w : World) (b8 : Kd.C Kd.string w a8 a2.length a2) (b9 : a2.length ≤ a9) (c0 : Kd.C k23 w b1 a4.length a4) (c1 : a4.length ≤ b2) (h : laws_szEntry.f k a3 a5 a6 a7 a2 a4 a1 = some r) :
  Calls Tryz.prog 67 #[.agg #[.string a3, .int .i64 a5, .int .i64 a6, .int .i64 a7, .slice a8 a2.length a9, .slice b1 a4.length b2], .int .i64 a1] w fun e w' => e = .returned (.int .i64 r) ∧ Below w.heap.size w w' := by
 have e4 := Tryz.underlying100
 have e5 := Tryz.underlying26
 have b5 := zA b8
 have b6 := zA b9
 clear b8 b9
 have c2 := zA c0
 have c3 := zA c1
 clear c0 c1
 have HB := zA (Below.refl w.heap.size w)
 unfold laws_szEntry.f at h
 have H := h
 clear h
 have b7 := zA H
 clear H
 go_enter Tryz.func67, Tryz.ntmps67
 go_upto_if 11 with (first | ((with_reducible refine zd 2 ?_); refine ze 2 100 #[.string a3, .int .i64 a5, .int .i64 a6, .int .i64 a7, .slice a8 a2.length a9, .slice b1 a4.length b2] ?_; intro c9 hg w4 hbox hb; have a0 := zA (hbox); have e6 := zi HB hg; have e7 := zi HB hg; replace HB := zA (below_step (zB) hb); clear hb hbox hg; obtain ⟨d0, d1, d2, d3, d4, d5, d6, d7, d8, d9, e0, e1⟩ := ze6 a0.out))
 (try simp only [Act.put, zT])
 go_cut [] (fun wc => ∃ (kq : Nat), Aside0 (laws_szEntry.j0 kq (wrap64 (a1 - (a3.size : Int))) a3 a5 a6 a7 a2 a4 = some r) ∧ Aside0 (kq ≤ k) ∧ Aside0 (wc.heap[c9]? = some (.cells #[.string a3, .int .i64 a5, .int .i64 a6, .int .i64 a7, (.slice a8 a2.length a9), (.slice b1 a4.length b2)] 100 (0, 0))) ∧ Aside0 (Below w.heap.size w wc))
 case first =>
  have H := b7.out
  clear b7
  replace H := zI0 H
  rcases H with ⟨b3, H⟩ | ⟨b3, H⟩
  ·(first | rw [b3] | (simp only [i64_w, i32_w]; rw [b3]) | skip)
   obtain rfl := zm H
   go_wp2
   go_ret
   exact ⟨zE, zW HB.out⟩
  ·(first | rw [b3] | (simp only [i64_w, i32_w]; rw [b3]) | skip)
   have H' := zA H
   clear H
   go_wp2
   go_meet
   case rel => exact ⟨_, (by first | exact H' | (subst_vars; exact H')), ⟨by first | omega | exact Nat.le_refl _⟩, ⟨zK a0.out⟩, ⟨zW HB.out⟩⟩
 case rest =>
  clear b7
  try clear p2
  try clear c6
  try clear b3
  try clear p6
  try clear d0 d1 d2 d3 d4 d5 d6 d7 d8 d9 e0 e1
  obtain ⟨kq, HA, e8, a0, HB⟩ := hcut
  cases kq with
  | zero => exact absurd HA.out (by simp [laws_szEntry.j0])
  | succ b4 =>
   have H := HA.out
   clear HA
   simp only [laws_szEntry.j0] at H
   replace H := Option.bind_eq_some_iff.mp H
   obtain ⟨b0, c4, H⟩ := H
   try dsimp only at H
   have A7 := zA c4
   clear c4
   replace H := zI0 H
   rcases H with ⟨e2, H⟩ | ⟨e2, H⟩
   ·obtain rfl := zm H
    obtain ⟨e9, f0, f1, f2, f3, f4, f5, f6, f7, f8, f9, g0⟩ := ze6 a0.out
    go_wp2_with (first | ((with_reducible refine zq 10 ?_); refine zg (some 15) Tryz.func10 #[.agg #[.int .i64 a5, .int .i64 a6, .int .i64 a7, .slice a8 a2.length a9], .int .i64 (wrap64 (a1 - (a3.size : Int)))] ?_; (with_reducible refine (laws_szVer.calls b4 a5 a6 a7 _ _ a2 (wrap64 (a1 - (a3.size : Int))) b0 _ ?s1 ?s2 A7.out).mono ?_); (case s1 => exact zC (Kd.C_below b5.out HB.out)); (case s2 => exact b6.out); rintro e g1 ⟨rfl, hb⟩; refine ⟨_, rfl, ?_⟩; replace a0 := zb a0 hb; replace HB := zh HB hb; (try clear hb)))
    go_ret
    exact ⟨zE, zW HB.out⟩
   ·replace H := Option.bind_eq_some_iff.mp H
    obtain ⟨c5, c7, H⟩ := H
    try dsimp only at H
    have c8 := zA c7
    clear c7
    replace H := zI0 H
    rcases H with ⟨e3, H⟩ | ⟨e3, H⟩
    ·obtain rfl := zm H
     obtain ⟨g2, g3, g4, g5, g6, g7, g8, g9, h0, h1, h2, h3⟩ := ze6 a0.out
     go_wp2_with (first | ((with_reducible refine zq 10 ?_); refine zg (some 15) Tryz.func10 #[.agg #[.int .i64 a5, .int .i64 a6, .int .i64 a7, .slice a8 a2.length a9], .int .i64 (wrap64 (a1 - (a3.size : Int)))] ?_; (with_reducible refine (laws_szVer.calls b4 a5 a6 a7 _ _ a2 (wrap64 (a1 - (a3.size : Int))) b0 _ ?s1 ?s2 A7.out).mono ?_); (case s1 => exact zC (Kd.C_below b5.out HB.out)); (case s2 => exact b6.out); rintro e h4 ⟨rfl, hb⟩; refine ⟨_, rfl, ?_⟩; replace a0 := zb a0 hb; replace HB := zh HB hb; (try clear hb); obtain ⟨h5, h6, h7, h8, h9, i0, i1, i2, i3, i4, i5, i6⟩ := ze6 a0.out) | ((with_reducible refine zq 51 ?_); refine zg (some 21) Tryz.func51 #[.slice b1 a4.length b2, .int .i64 b0] ?_; (with_reducible refine (laws_szNeedS.calls b4 _ _ a4 b0 c5 _ ?s1 ?s2 c8.out).mono ?_); (case s1 => exact zC (Kd.C_below c2.out HB.out)); (case s2 => exact c3.out); rintro e i7 ⟨rfl, hb⟩; refine ⟨_, rfl, ?_⟩; replace a0 := zb a0 hb; replace HB := zh HB hb; (try clear hb)))
     go_ret
     exact ⟨zE, zW HB.out⟩
    ·obtain rfl := zm H
     obtain ⟨i8, i9, j1, j2, j3, j4, j5, j6, j7, j8, j9, k0⟩ := ze6 a0.out
     go_wp2_with (first | ((with_reducible refine zq 10 ?_); refine zg (some 15) Tryz.func10 #[.agg #[.int .i64 a5, .int .i64 a6, .int .i64 a7, .slice a8 a2.length a9], .int .i64 (wrap64 (a1 - (a3.size : Int)))] ?_; (with_reducible refine (laws_szVer.calls b4 a5 a6 a7 _ _ a2 (wrap64 (a1 - (a3.size : Int))) b0 _ ?s1 ?s2 A7.out).mono ?_); (case s1 => exact zC (Kd.C_below b5.out HB.out)); (case s2 => exact b6.out); rintro e k1 ⟨rfl, hb⟩; refine ⟨_, rfl, ?_⟩; replace a0 := zb a0 hb; replace HB := zh HB hb; (try clear hb); obtain ⟨k2, k3, k4, k5, k6, k7, k8, k9, l0, l1, l2, l3⟩ := ze6 a0.out) | ((with_reducible refine zq 51 ?_); refine zg (some 21) Tryz.func51 #[.slice b1 a4.length b2, .int .i64 b0] ?_; (with_reducible refine (laws_szNeedS.calls b4 _ _ a4 b0 c5 _ ?s1 ?s2 c8.out).mono ?_); (case s1 => exact zC (Kd.C_below c2.out HB.out)); (case s2 => exact c3.out); rintro e l4 ⟨rfl, hb⟩; refine ⟨_, rfl, ?_⟩; replace a0 := zb a0 hb; replace HB := zh HB hb; (try clear hb)))
     go_ret
     exact ⟨zE, zW HB.out⟩
/-! ### laws_szEntryS: function 21 -/
mutual
def laws_szEntryS.j0 : Nat → List (S100) → Int → Option (Int)
 | 0, _, _ => none
 | k + 1, x0, x1 => laws_szEntryS.l0 k x0 x1 0
def laws_szEntryS.l0 : Nat → List (S100) → Int → Int → Option (Int)
 | 0, _, _, _ => none
 | k + 1, x0, x1, x5 => if x5 < (x0.length : Int) then (if 0 ≤ x5 then ((laws_szEntry.f k ((rd_T100 x0 x5).f0) ((rd_T100 x0 x5).f1.f0) ((rd_T100 x0 x5).f1.f1) ((rd_T100 x0 x5).f1.f2) ((rd_T100 x0 x5).f1.f3) ((rd_T100 x0 x5).f2) x1).bind fun a0 => (if a0 < 0 then (some (-1)) else (laws_szEntryS.l0 k x0 a0 (wrap64 (x5 + 1))))) else (none)) else (some x1)
end
def laws_szEntryS.f (k : Nat) (l0 : List (S100)) (a1 : Int) : Option (Int) := if (wrap64 (a1 - (l0.length : Int))) < 0 then (some (-1)) else (laws_szEntryS.j0 k l0 (wrap64 (a1 - (l0.length : Int))))
theorem laws_szEntryS.calls (k : Nat) (A0 : Option Addr) (c0 : Nat) (l0 : List (S100)) (a1 r : Int) (w : World) (d0 : Kd.C k100 w A0 l0.length l0) (d1 : l0.length ≤ c0) (h : laws_szEntryS.f k l0 a1 = some r) :
  Calls Tryz.prog 21 #[.slice A0 l0.length c0, .int .i64 a1] w fun e w' => e = .returned (.int .i64 r) ∧ Below w.heap.size w w' := by
 have e0 := Tryz.underlying100
 have d2 := zA d0
 have e1 := zA d1
 clear d0 d1
 have HB := zA (Below.refl w.heap.size w)
 unfold laws_szEntryS.f at h
 have H := h
 clear h
 have b6 := zA H
 clear H
 go_enter Tryz.func21, Tryz.ntmps21
 go_upto_if 11 with (fail)
 go_cut [] (fun wc => ∃ (kq : Nat), Aside0 (laws_szEntryS.j0 kq l0 (wrap64 (a1 - (l0.length : Int))) = some r) ∧ Aside0 (kq ≤ k) ∧ Aside0 (Below w.heap.size w wc))
 case first =>
  have H := b6.out
  clear b6
  replace H := zI0 H
  rcases H with ⟨a2, H⟩ | ⟨a2, H⟩
  ·(first | rw [a2] | (simp only [i64_w, i32_w]; rw [a2]) | skip)
   obtain rfl := zm H
   go_wp2
   go_ret
   exact ⟨zE, zB⟩
  ·(first | rw [a2] | (simp only [i64_w, i32_w]; rw [a2]) | skip)
   have H' := zA H
   clear H
   go_wp2
   go_meet
   case rel => exact ⟨_, (by first | exact H' | (subst_vars; exact H')), ⟨by first | omega | exact Nat.le_refl _⟩, ⟨zB⟩⟩
 case rest =>
  clear b6
  try clear c2
  try clear p2
  try clear c4
  try clear a2
  obtain ⟨kq, HA, d3, HB⟩ := hcut
  cases kq with
  | zero => exact absurd HA.out (by simp [laws_szEntryS.j0])
  | succ d4 =>
   have H := HA.out
   clear HA
   simp only [laws_szEntryS.j0] at H
   have H' := zA H
   clear H
   go_wp2
   go_loopg [1, 5] d4 (fun kq v1 v5 w' => ∃ (a3 : Int) (a0 : Int), v1 = .int .i64 a3 ∧ v5 = .int .i64 a0 ∧ Aside0 (laws_szEntryS.l0 kq l0 a3 a0 = some r) ∧ Aside0 (kq ≤ d4) ∧ Aside0 (Below w.heap.size w w'))
   case atStart => exact ⟨((wrap64 (a1 - (l0.length : Int)))), (0), zS, zS, H', ⟨Nat.le_refl _⟩, ⟨zB⟩⟩
   case round =>
    clear H'
    try clear c2
    try clear p2
    try clear c4
    try clear a2
    try clear p2
    obtain ⟨a3, a0, rfl, rfl, HA, d5, HB⟩ := hrel
    cases gk with
    | zero => exact absurd HA.out (by simp [laws_szEntryS.l0])
    | succ k2 =>
     have H := HA.out
     clear HA
     simp only [laws_szEntryS.l0] at H
     replace H := zI0 H
     rcases H with ⟨d7, H⟩ | ⟨d7, H⟩
     ·replace H := zD0 H
      obtain ⟨e2, H⟩ := H
      replace H := Option.bind_eq_some_iff.mp H
      obtain ⟨b7, d6, H⟩ := H
      try dsimp only at H
      have A7 := zA d6
      clear d6
      replace H := zI0 H
      rcases H with ⟨d8, H⟩ | ⟨d8, H⟩
      ·obtain rfl := zm H
       have a4 : 0 ≤ (a0 : Int) := zD
       have a5 : a0 < (l0.length : Int) := zD
       obtain ⟨d9, b8, b9, c1, c3, c5, a6, a7, a8, a9, b0, b1, b2, b3, b4, b5⟩ := at_T100 d2.out a0 a4 a5
       cases c5
       replace a6 := zx HB a6
       replace a7 := zx HB a7
       replace a8 := zx HB a8
       replace a9 := zx HB a9
       replace b0 := zx HB b0
       replace b1 := zx HB b1
       have c6 := zA b3
       have c7 := zA b2
       clear b3 b2
       have c8 := zA b5
       have c9 := zA b4
       clear b5 b4
       replace a4 := eq_true a4
       replace a5 := eq_true a5
       go_wp2_with (first | ((with_reducible refine zq 67 ?_); refine zg (some 23) Tryz.func67 #[.agg #[.string ((rd_T100 l0 a0).f0), .int .i64 ((rd_T100 l0 a0).f1.f0), .int .i64 ((rd_T100 l0 a0).f1.f1), .int .i64 ((rd_T100 l0 a0).f1.f2), .slice b8 ((rd_T100 l0 a0).f1.f3).length b9, .slice c1 ((rd_T100 l0 a0).f2).length c3], .int .i64 a3] ?_; (with_reducible refine (laws_szEntry.calls k2 ((rd_T100 l0 a0).f0) ((rd_T100 l0 a0).f1.f0) ((rd_T100 l0 a0).f1.f1) ((rd_T100 l0 a0).f1.f2) _ _ ((rd_T100 l0 a0).f1.f3) _ _ ((rd_T100 l0 a0).f2) a3 b7 _ ?s1 ?s2 ?s3 ?s4 A7.out).mono ?_); (case s1 => exact zC (Kd.C_below c6.out HB.out)); (case s2 => exact c7.out); (case s3 => exact zC (Kd.C_below c8.out HB.out)); (case s4 => exact c9.out); rintro e w9 ⟨rfl, hb⟩; refine ⟨_, rfl, ?_⟩; replace HB := zA (below_step (zB) hb); (try clear hb)))
       go_ret
       exact ⟨zE, zB⟩
      ·have H' := zA H
       clear H
       have a4 : 0 ≤ (a0 : Int) := zD
       have a5 : a0 < (l0.length : Int) := zD
       obtain ⟨d9, b8, b9, c1, c3, c5, a6, a7, a8, a9, b0, b1, b2, b3, b4, b5⟩ := at_T100 d2.out a0 a4 a5
       cases c5
       replace a6 := zx HB a6
       replace a7 := zx HB a7
       replace a8 := zx HB a8
       replace a9 := zx HB a9
       replace b0 := zx HB b0
       replace b1 := zx HB b1
       have c6 := zA b3
       have c7 := zA b2
       clear b3 b2
       have c8 := zA b5
       have c9 := zA b4
       clear b5 b4
       replace a4 := eq_true a4
       replace a5 := eq_true a5
       go_wp2_with (first | ((with_reducible refine zq 67 ?_); refine zg (some 23) Tryz.func67 #[.agg #[.string ((rd_T100 l0 a0).f0), .int .i64 ((rd_T100 l0 a0).f1.f0), .int .i64 ((rd_T100 l0 a0).f1.f1), .int .i64 ((rd_T100 l0 a0).f1.f2), .slice b8 ((rd_T100 l0 a0).f1.f3).length b9, .slice c1 ((rd_T100 l0 a0).f2).length c3], .int .i64 a3] ?_; (with_reducible refine (laws_szEntry.calls k2 ((rd_T100 l0 a0).f0) ((rd_T100 l0 a0).f1.f0) ((rd_T100 l0 a0).f1.f1) ((rd_T100 l0 a0).f1.f2) _ _ ((rd_T100 l0 a0).f1.f3) _ _ ((rd_T100 l0 a0).f2) a3 b7 _ ?s1 ?s2 ?s3 ?s4 A7.out).mono ?_); (case s1 => exact zC (Kd.C_below c6.out HB.out)); (case s2 => exact c7.out); (case s3 => exact zC (Kd.C_below c8.out HB.out)); (case s4 => exact c9.out); rintro e e3 ⟨rfl, hb⟩; refine ⟨_, rfl, ?_⟩; replace HB := zA (below_step (zB) hb); (try clear hb)))
       go_roundg k2
       case measure => have := d3.out; have := d5.out; omega
       case rel => exact ⟨(b7), (wrap64 (a0 + 1)), zS, zS, H', ⟨by have := d3.out; have := d5.out; omega⟩, ⟨zB⟩⟩
     ·obtain rfl := zm H
      go_wp2
      go_ret
      exact ⟨zE, zB⟩
/-! ### spec_l1In: function 104 -/
def spec_l1In.f (a0 a1 a2 : Int) : Option (Bool) := if a0 ≥ a1 then (some (decide (a0 ≤ a2))) else (some false)
theorem spec_l1In.calls (a0 a1 a2 : Int) (r : Bool) (w : World) (h : spec_l1In.f a0 a1 a2 = some r) :
  Calls Tryz.prog 104 #[.int .i64 a0, .int .i64 a1, .int .i64 a2] w fun e w' => e = .returned (.bool r) ∧ Drawn0 w w' := by
 unfold spec_l1In.f at h
 have H := h
 clear h
 replace H := zI1 H
 rcases H with ⟨c4, H⟩ | ⟨c4, H⟩
 ·have a3 : decide (a1 ≤ a0) = true := decide_eq_true c4
  clear c4
  obtain rfl := zm H
  go_enter Tryz.func104, Tryz.ntmps104
  go_wp2
  go_ret
  exact ⟨by first | rfl | (simp; done) | (simp [*]; done) | (simp; rw [Bool.eq_iff_iff]; simp; done), by repeat (first | exact Drawn0.refl _ | apply Drawn0.step)⟩
 ·have a3 : decide (a1 ≤ a0) = false := decide_eq_false c4
  clear c4
  obtain rfl := zm H
  go_enter Tryz.func104, Tryz.ntmps104
  go_wp2
  go_ret
  exact ⟨by first | rfl | (simp; done) | (simp [*]; done) | (simp; rw [Bool.eq_iff_iff]; simp; done), by repeat (first | exact Drawn0.refl _ | apply Drawn0.step)⟩
/-! ### spec_l1Small: function 107 -/
def spec_l1Small.f (a0 : Int) : Option (Bool) := (spec_l1In.f (wrap64 (a0)) 97 122).bind fun a1 => (some a1)
theorem spec_l1Small.calls (a0 : Int) (r : Bool) (w : World) (h : spec_l1Small.f a0 = some r) :
  Calls Tryz.prog 107 #[.int .u8 a0] w fun e w' => e = .returned (.bool r) ∧ Drawn0 w w' := by
 unfold spec_l1Small.f at h
 have H := h
 clear h
 replace H := Option.bind_eq_some_iff.mp H
 obtain ⟨a2, a1, H⟩ := H
 try dsimp only at H
 have A2 := zA a1
 clear a1
 obtain rfl := zm H
 go_enter Tryz.func107, Tryz.ntmps107
 go_wp2_with (first | ((with_reducible refine zq 104 ?_); refine zg (some 5) Tryz.func104 #[.int .i64 (wrap64 (a0)), .int .i64 97, .int .i64 122] ?_; (with_reducible refine (spec_l1In.calls (wrap64 (a0)) 97 122 a2 _ A2.out).mono ?_); rintro e w' ⟨rfl, ⟨nd, rfl⟩⟩; refine ⟨_, rfl, ?_⟩))
 go_ret
 exact ⟨by first | rfl | (simp; done) | (simp [*]; done) | (simp; rw [Bool.eq_iff_iff]; simp; done), by repeat (first | exact Drawn0.refl _ | apply Drawn0.step)⟩
/-! ### spec_l1Digit: function 108 -/
def spec_l1Digit.f (a0 : Int) : Option (Bool) := (spec_l1In.f (wrap64 (a0)) 48 57).bind fun a1 => (some a1)
theorem spec_l1Digit.calls (a0 : Int) (r : Bool) (w : World) (h : spec_l1Digit.f a0 = some r) :
  Calls Tryz.prog 108 #[.int .u8 a0] w fun e w' => e = .returned (.bool r) ∧ Drawn0 w w' := by
 unfold spec_l1Digit.f at h
 have H := h
 clear h
 replace H := Option.bind_eq_some_iff.mp H
 obtain ⟨a2, a1, H⟩ := H
 try dsimp only at H
 have A2 := zA a1
 clear a1
 obtain rfl := zm H
 go_enter Tryz.func108, Tryz.ntmps108
 go_wp2_with (first | ((with_reducible refine zq 104 ?_); refine zg (some 5) Tryz.func104 #[.int .i64 (wrap64 (a0)), .int .i64 48, .int .i64 57] ?_; (with_reducible refine (spec_l1In.calls (wrap64 (a0)) 48 57 a2 _ A2.out).mono ?_); rintro e w' ⟨rfl, ⟨nd, rfl⟩⟩; refine ⟨_, rfl, ?_⟩))
 go_ret
 exact ⟨by first | rfl | (simp; done) | (simp [*]; done) | (simp; rw [Bool.eq_iff_iff]; simp; done), by repeat (first | exact Drawn0.refl _ | apply Drawn0.step)⟩
/-! ### spec_NameOk: function 53 -/
mutual
def spec_NameOk.l0 : Nat → ByteArray → Int → Option (Bool)
 | 0, _, _ => none
 | k + 1, x0, x3 => if x3 < (x0.size : Int) then (spec_NameOk.j1 k x0 x3) else ((spec_l1In.f (x0.size : Int) 1 10).bind fun a0 => (some a0))
def spec_NameOk.j1 : Nat → ByteArray → Int → Option (Bool)
 | 0, _, _ => none
 | k + 1, x0, x3 => if 0 ≤ x3 then (if x3 < (x0.size : Int) then ((spec_l1Small.f (bt x0 x3)).bind fun a1 => (if a1 = true then (spec_NameOk.l0 k x0 (wrap64 (x3 + 1))) else (if x3 = 0 then (some false) else ((spec_l1Digit.f (bt x0 x3)).bind fun a2 => (if a2 = true then (spec_NameOk.l0 k x0 (wrap64 (x3 + 1))) else (if (bt x0 x3) = 45 then (spec_NameOk.l0 k x0 (wrap64 (x3 + 1))) else (some false))))))) else (none)) else (none)
end
def spec_NameOk.f (k : Nat) (a0 : ByteArray) : Option (Bool) := spec_NameOk.l0 k a0 0
theorem spec_NameOk.calls (k : Nat) (a0 : ByteArray) (r : Bool) (w : World) (h : spec_NameOk.f k a0 = some r) :
  Calls Tryz.prog 53 #[.string a0] w fun e w' => e = .returned (.bool r) ∧ Drawn0 w w' := by
 unfold spec_NameOk.f at h
 have H := h
 clear h
 have H' := zA H
 clear H
 go_enter Tryz.func53, Tryz.ntmps53
 go_wp2
 go_loopg [3] k (fun kq v3 w' => ∃ (a1 : Int), v3 = .int .i64 a1 ∧ Aside0 (spec_NameOk.l0 kq a0 a1 = some r) ∧ Aside0 (kq ≤ k) ∧ Drawn0 w w')
 case atStart => exact ⟨(0), zS, H', ⟨Nat.le_refl _⟩, by repeat (first | exact Drawn0.refl _ | apply Drawn0.step)⟩
 case round =>
  clear H'
  obtain ⟨a1, rfl, HA, a4, ⟨m1, rfl⟩⟩ := hrel
  cases gk with
  | zero => exact absurd HA.out (by simp [spec_NameOk.l0])
  | succ k1 =>
   have H := HA.out
   clear HA
   simp only [spec_NameOk.l0] at H
   have b2 := zA H
   clear H
   go_upto_if 7 with (fail)
   go_cut [] (fun wc => ∃ (kq : Nat), Aside0 (spec_NameOk.j1 kq a0 a1 = some r) ∧ Aside0 (kq ≤ k1) ∧ Drawn0 w wc)
   case first =>
    have H := b2.out
    clear b2
    replace H := zI0 H
    rcases H with ⟨a5, H⟩ | ⟨a5, H⟩
    ·(first | rw [a5] | (simp only [i64_w, i32_w]; rw [a5]) | skip)
     have H' := zA H
     clear H
     go_wp2
     go_meet
     case rel => exact ⟨_, (by first | exact H' | (subst_vars; exact H')), ⟨by have := a4.out; first | omega | exact Nat.le_refl _⟩, by repeat (first | exact Drawn0.refl _ | apply Drawn0.step)⟩
    ·(first | rw [a5] | (simp only [i64_w, i32_w]; rw [a5]) | skip)
     replace H := Option.bind_eq_some_iff.mp H
     obtain ⟨b9, b5, H⟩ := H
     try dsimp only at H
     have A4 := zA b5
     clear b5
     obtain rfl := zm H
     go_wp2_with (first | ((with_reducible refine zq 104 ?_); refine zg (some 34) Tryz.func104 #[.int .i64 (a0.size : Int), .int .i64 1, .int .i64 10] ?_; (with_reducible refine (spec_l1In.calls (a0.size : Int) 1 10 b9 _ A4.out).mono ?_); rintro e w' ⟨rfl, ⟨nd, rfl⟩⟩; refine ⟨_, rfl, ?_⟩))
     go_ret
     exact ⟨by first | rfl | (simp; done) | (simp [*]; done) | (simp; rw [Bool.eq_iff_iff]; simp; done), by repeat (first | exact Drawn0.refl _ | apply Drawn0.step)⟩
   case rest =>
    clear b2
    try clear c1
    try clear p2
    try clear c3
    try clear a5
    obtain ⟨kq, HA, a6, ⟨c7, rfl⟩⟩ := hcut
    cases kq with
    | zero => exact absurd HA.out (by simp [spec_NameOk.j1])
    | succ b3 =>
     have H := HA.out
     clear HA
     simp only [spec_NameOk.j1] at H
     replace H := zD0 H
     obtain ⟨c8, H⟩ := H
     replace H := zD0 H
     obtain ⟨c9, H⟩ := H
     replace H := Option.bind_eq_some_iff.mp H
     obtain ⟨d0, b6, H⟩ := H
     try dsimp only at H
     have A8 := zA b6
     clear b6
     replace H := zB0 H
     rcases H with ⟨rfl, H⟩ | ⟨rfl, H⟩
     ·have H' := zA H
      clear H
      have p7 : 0 ≤ (a1 : Int) := zD
      have q7 : a1 < (a0.size : Int) := zD
      have b1 := bt_at a0 a1
      replace p7 := eq_true p7
      replace q7 := eq_true q7
      go_wp2_with (first | ((with_reducible refine zq 107 ?_); refine zg (some 13) Tryz.func107 #[.int .u8 (bt a0 a1)] ?_; (with_reducible refine (spec_l1Small.calls (bt a0 a1) true _ A8.out).mono ?_); rintro e w' ⟨rfl, ⟨nd, rfl⟩⟩; refine ⟨_, rfl, ?_⟩))
      go_roundg b3
      case measure => have := a4.out; have := a6.out; omega
      case rel => exact ⟨(wrap64 (a1 + 1)), zS, H', ⟨by have := a4.out; have := a6.out; omega⟩, by repeat (first | exact Drawn0.refl _ | apply Drawn0.step)⟩
     ·replace H := zI1 H
      rcases H with ⟨a7, H⟩ | ⟨a7, H⟩
      ·have c0 := beq_iff_eq.mpr a7
       have c2 := bne_eq_false_iff_eq.mpr a7
       clear a7
       obtain rfl := zm H
       have p7 : 0 ≤ (a1 : Int) := zD
       have q7 : a1 < (a0.size : Int) := zD
       have b1 := bt_at a0 a1
       replace p7 := eq_true p7
       replace q7 := eq_true q7
       go_wp2_with (first | ((with_reducible refine zq 107 ?_); refine zg (some 13) Tryz.func107 #[.int .u8 (bt a0 a1)] ?_; (with_reducible refine (spec_l1Small.calls (bt a0 a1) false _ A8.out).mono ?_); rintro e w' ⟨rfl, ⟨nd, rfl⟩⟩; refine ⟨_, rfl, ?_⟩))
       go_ret
       exact ⟨by first | rfl | (simp; done) | (simp [*]; done) | (simp; rw [Bool.eq_iff_iff]; simp; done), by repeat (first | exact Drawn0.refl _ | apply Drawn0.step)⟩
      ·have c0 := beq_eq_false_iff_ne.mpr a7
       have c2 := bne_iff_ne.mpr a7
       replace H := Option.bind_eq_some_iff.mp H
       obtain ⟨d1, b7, H⟩ := H
       try dsimp only at H
       have b4 := zA b7
       clear b7
       replace H := zB0 H
       rcases H with ⟨rfl, H⟩ | ⟨rfl, H⟩
       ·have H' := zA H
        clear H
        have p7 : 0 ≤ (a1 : Int) := zD
        have q7 : a1 < (a0.size : Int) := zD
        have b1 := bt_at a0 a1
        replace p7 := eq_true p7
        replace q7 := eq_true q7
        go_wp2_with (first | ((with_reducible refine zq 107 ?_); refine zg (some 13) Tryz.func107 #[.int .u8 (bt a0 a1)] ?_; (with_reducible refine (spec_l1Small.calls (bt a0 a1) false _ A8.out).mono ?_); rintro e w' ⟨rfl, ⟨nd, rfl⟩⟩; refine ⟨_, rfl, ?_⟩; have a2 : 0 ≤ (a1 : Int) := zD; have a3 : a1 < (a0.size : Int) := zD; have b8 := bt_at a0 a1; replace a2 := eq_true a2; replace a3 := eq_true a3) | (go_at_call 108; (with_reducible refine (spec_l1Digit.calls (bt a0 a1) true _ b4.out).mono ?_); rintro e w' ⟨rfl, ⟨nd, rfl⟩⟩))
        go_roundg b3
        case measure => have := a4.out; have := a6.out; omega
        case rel => exact ⟨(wrap64 (a1 + 1)), zS, H', ⟨by have := a4.out; have := a6.out; omega⟩, by repeat (first | exact Drawn0.refl _ | apply Drawn0.step)⟩
       ·replace H := zI1 H
        rcases H with ⟨a8, H⟩ | ⟨a8, H⟩
        ·have c4 := beq_iff_eq.mpr a8
         have c5 := bne_eq_false_iff_eq.mpr a8
         clear a8
         have H' := zA H
         clear H
         have p7 : 0 ≤ (a1 : Int) := zD
         have q7 : a1 < (a0.size : Int) := zD
         have b1 := bt_at a0 a1
         replace p7 := eq_true p7
         replace q7 := eq_true q7
         go_wp2_with (first | ((with_reducible refine zq 107 ?_); refine zg (some 13) Tryz.func107 #[.int .u8 (bt a0 a1)] ?_; (with_reducible refine (spec_l1Small.calls (bt a0 a1) false _ A8.out).mono ?_); rintro e w' ⟨rfl, ⟨nd, rfl⟩⟩; refine ⟨_, rfl, ?_⟩; have a2 : 0 ≤ (a1 : Int) := zD; have a3 : a1 < (a0.size : Int) := zD; have b8 := bt_at a0 a1; replace a2 := eq_true a2; replace a3 := eq_true a3) | (go_at_call 108; (with_reducible refine (spec_l1Digit.calls (bt a0 a1) false _ b4.out).mono ?_); rintro e w' ⟨rfl, ⟨nd, rfl⟩⟩; have a9 : 0 ≤ (a1 : Int) := zD; have b0 : a1 < (a0.size : Int) := zD; have c6 := bt_at a0 a1; replace a9 := eq_true a9; replace b0 := eq_true b0))
         go_roundg b3
         case measure => have := a4.out; have := a6.out; omega
         case rel => exact ⟨(wrap64 (a1 + 1)), zS, H', ⟨by have := a4.out; have := a6.out; omega⟩, by repeat (first | exact Drawn0.refl _ | apply Drawn0.step)⟩
        ·have c4 := beq_eq_false_iff_ne.mpr a8
         have c5 := bne_iff_ne.mpr a8
         obtain rfl := zm H
         have p7 : 0 ≤ (a1 : Int) := zD
         have q7 : a1 < (a0.size : Int) := zD
         have b1 := bt_at a0 a1
         replace p7 := eq_true p7
         replace q7 := eq_true q7
         go_wp2_with (first | ((with_reducible refine zq 107 ?_); refine zg (some 13) Tryz.func107 #[.int .u8 (bt a0 a1)] ?_; (with_reducible refine (spec_l1Small.calls (bt a0 a1) false _ A8.out).mono ?_); rintro e w' ⟨rfl, ⟨nd, rfl⟩⟩; refine ⟨_, rfl, ?_⟩; have a2 : 0 ≤ (a1 : Int) := zD; have a3 : a1 < (a0.size : Int) := zD; have b8 := bt_at a0 a1; replace a2 := eq_true a2; replace a3 := eq_true a3) | (go_at_call 108; (with_reducible refine (spec_l1Digit.calls (bt a0 a1) false _ b4.out).mono ?_); rintro e w' ⟨rfl, ⟨nd, rfl⟩⟩; have a9 : 0 ≤ (a1 : Int) := zD; have b0 : a1 < (a0.size : Int) := zD; have c6 := bt_at a0 a1; replace a9 := eq_true a9; replace b0 := eq_true b0))
         go_ret
         exact ⟨by first | rfl | (simp; done) | (simp [*]; done) | (simp; rw [Bool.eq_iff_iff]; simp; done), by repeat (first | exact Drawn0.refl _ | apply Drawn0.step)⟩
/-! ### spec_l4Sides: function 76 -/
def spec_l4Sides.l0 : Nat → ByteArray → List ByteArray → Int → Int → Option (List ByteArray)
 | 0, _, _, _, _ => none
 | k + 1, x0, x3, x4, x5 => if (wrap64 (x5 + 1)) < (x0.size : Int) then (if 0 ≤ x5 then (if x5 < (x0.size : Int) then (if (bt x0 x5) = 124 then (if 0 ≤ (wrap64 (x5 + 1)) then (if (bt x0 (wrap64 (x5 + 1))) = 124 then (if 0 ≤ x4 then (if x4 ≤ x5 then (if x5 ≤ (x0.size : Int) then (if x3.length < 8796093022208 then (spec_l4Sides.l0 k x0 (x3 ++ [x0.extract (x4 : Int).toNat (x5 : Int).toNat]) (wrap64 (x5 + 2)) (wrap64 ((wrap64 (x5 + 1)) + 1))) else (none)) else (none)) else (none)) else (none)) else (spec_l4Sides.l0 k x0 x3 x4 (wrap64 (x5 + 1)))) else (none)) else (spec_l4Sides.l0 k x0 x3 x4 (wrap64 (x5 + 1)))) else (none)) else (none)) else (if 0 ≤ x4 then (if x4 ≤ (x0.size : Int) then (if x3.length < 8796093022208 then (some (x3 ++ [x0.extract (x4 : Int).toNat x0.size])) else (none)) else (none)) else (none))
def spec_l4Sides.f (k : Nat) (a0 : ByteArray) : Option (List ByteArray) := spec_l4Sides.l0 k a0 (([] : List ByteArray)) 0 0
theorem spec_l4Sides.calls (k : Nat) (a0 : ByteArray) (r : List ByteArray) (w : World) (h : spec_l4Sides.f k a0 = some r) :
  Calls Tryz.prog 76 #[.string a0] w fun e w' => ∃ c0 : Value, e = .returned (c0) ∧ Kd.R Kd.string 9 w' w.heap.size (fun _ => True) c0 r ∧ Below w.heap.size w w' := by
 have HB := zA (Below.refl w.heap.size w)
 unfold spec_l4Sides.f at h
 have H := h
 clear h
 obtain ⟨c1, b2⟩ : ∃ y_ : List ByteArray, y_ = (([] : List ByteArray)) := ⟨_, rfl⟩
 replace H : (spec_l4Sides.l0 k a0 c1 0 0) = some r := zY b2 H
 have c2 := zA b2
 clear b2
 have H' := zA H
 clear H
 go_enter Tryz.func76, Tryz.ntmps76
 go_wp2_with (first | ((with_reducible refine gate_dst (N := 6) rfl ?_); refine Kd.R_lit Kd.string _ 9 ?hg (N := 6) ?hd (xs := ([] : List ByteArray)) (inner := []) (ok := fun _ => True) ?hr ?hp (fun _ hk => hk) trivial (Below.refl _ _) (Nat.le_refl _) (by simp) ?_; (case hd => rfl); (case hg => rfl); (case hr => first | (go_simp; done) | (go_simp; rfl)); (case hp => exact (Reps.none _ _)); intro e2 w2 a9 hb hg_ hnew_; clear hg_ hnew_; (first | rw [← c2.out] at a9 | (simp only [Int.reduceToNat] at a9; rw [← c2.out] at a9)); have c9 := zA (Kd.R_lower a9 (below_size (zB))); replace HB := zA (below_step (zB) hb); clear hb a9))
 go_loopg [3, 4, 5] k (fun kq v3 v4 v5 w' => ∃ (a4 : List ByteArray) (a2 : Int) (a1 : Int), v4 = .int .i64 a2 ∧ v5 = .int .i64 a1 ∧ Aside0 (spec_l4Sides.l0 kq a0 a4 a2 a1 = some r) ∧ Aside0 (kq ≤ k) ∧ Aside0 (Kd.R Kd.string 9 w' w.heap.size (fun _ => True) v3 a4) ∧ Aside0 (Below w.heap.size w w'))
 case atStart => exact ⟨(c1), (0), (0), zS, zS, H', ⟨Nat.le_refl _⟩, ⟨zR c9.out⟩, ⟨zB⟩⟩
 case round =>
  clear H'
  try clear p2
  obtain ⟨a4, a2, a1, rfl, rfl, HA, a5, a6, HB⟩ := hrel
  cases gk with
  | zero => exact absurd HA.out (by simp [spec_l4Sides.l0])
  | succ k1 =>
   have H := HA.out
   clear HA
   simp only [spec_l4Sides.l0] at H
   replace H := zI0 H
   rcases H with ⟨c3, H⟩ | ⟨c3, H⟩
   ·replace H := zD0 H
    obtain ⟨e3, H⟩ := H
    replace H := zD0 H
    obtain ⟨e4, H⟩ := H
    replace H := zI1 H
    rcases H with ⟨c8, H⟩ | ⟨c8, H⟩
    ·have d0 := beq_iff_eq.mpr c8
     have d1 := bne_eq_false_iff_eq.mpr c8
     clear c8
     obtain ⟨a3, a7⟩ : ∃ j_ : Int, (wrap64 (a1 + 1)) = j_ := ⟨_, rfl⟩
     replace H : (if 0 ≤ (a3) then (if (bt a0 (a3)) = 124 then (if 0 ≤ a2 then (if a2 ≤ a1 then (if a1 ≤ (a0.size : Int) then (if a4.length < 8796093022208 then (spec_l4Sides.l0 k1 a0 (a4 ++ [a0.extract (a2 : Int).toNat (a1 : Int).toNat]) (wrap64 (a1 + 2)) (wrap64 ((a3) + 1))) else (none)) else (none)) else (none)) else (none)) else (spec_l4Sides.l0 k1 a0 a4 a2 a3)) else (none)) = some r := by first | (rw [a7] at H; exact H) | (simp only [a7] at H ⊢; exact H)
     (try rw [a7] at c3)
     have hji9w : (IntKind.i64.wrap (a1 + 1)) = a3 := (i64_w _).trans a7
     replace H := zD0 H
     obtain ⟨e5, H⟩ := H
     replace H := zI1 H
     rcases H with ⟨a8, H⟩ | ⟨a8, H⟩
     ·have d2 := beq_iff_eq.mpr a8
      have d3 := bne_eq_false_iff_eq.mpr a8
      clear a8
      replace H := zC0 H
      obtain ⟨b3, H⟩ := H
      have e6 := eq_true b3
      have e7 := decide_eq_true b3
      clear b3
      replace H := zC0 H
      obtain ⟨b4, H⟩ := H
      have e8 := eq_true b4
      have e9 := decide_eq_true b4
      clear b4
      replace H := zC0 H
      obtain ⟨b5, H⟩ := H
      have f0 := eq_true b5
      have f1 := decide_eq_true b5
      clear b5
      replace H := zC0 H
      obtain ⟨c4, H⟩ := H
      have d4 := zA c4
      clear c4
      obtain ⟨c5, b6⟩ : ∃ y_ : List ByteArray, y_ = (a4 ++ [a0.extract (a2 : Int).toNat (a1 : Int).toNat]) := ⟨_, rfl⟩
      replace H : (spec_l4Sides.l0 k1 a0 c5 (wrap64 (a1 + 2)) (wrap64 ((a3) + 1))) = some r := zY b6 H
      have d5 := zA b6
      clear b6
      have H' := zA H
      clear H
      have p7 : 0 ≤ (a1 : Int) := zD
      have q7 : a1 < (a0.size : Int) := zD
      have c6 := bt_at a0 a1
      replace p7 := eq_true p7
      replace q7 := eq_true q7
      have b0 : 0 ≤ ((a3) : Int) := zD
      have b1 : (a3) < (a0.size : Int) := zD
      have d6 := bt_at a0 (a3)
      replace b0 := eq_true b0
      replace b1 := eq_true b1
      go_wp2_with (first | ((with_reducible refine gate_builtin (b := .append) (xs := #[.tmp 25, .tmp 30]) rfl ?_); at_builtin; refine Kd.R_append Kd.string (w0 := w) w.heap.size rfl (.tmp 25) (.tmp 30) 24 9 (.string ⟨#[]⟩) 16 rfl Tryz.underlying24 info9 rfl (by decide) (by omega) u3 a4 (a0.extract (a2 : Int).toNat (a1 : Int).toNat) [.string (a0.extract (a2 : Int).toNat (a1 : Int).toNat)] (fun _ => True) (fun _ => False) rfl rfl ?aP (fun _ hk => hk.elim) ?aF ?aO ?aB ?aS ?aL ?_; (case aP => exact rfl); (case aB => exact (zB)); (case aF => exact (fun _ _ => trivial)); (case aO => exact (zR a6.out)); (case aS => exact (below_size (zB))); (case aL => have := d4.out; omega); intro f2 f3 ho hb hg hat; rw [← d5.out] at ho; replace HB := zA (hb); have d7 := zA (ho); clear a6; clear ho hb hg hat))
      go_roundg k1
      case measure => have := a5.out; omega
      case rel => exact ⟨(c5), (wrap64 (a1 + 2)), (wrap64 ((a3) + 1)), zS, (by first | rfl | (simp; done) | (simp only [← a7] <;> (first | rfl | simp)) | (simp [*]; done)), H', ⟨by have := a5.out; omega⟩, ⟨zR d7.out⟩, ⟨zB⟩⟩
     ·have d2 := beq_eq_false_iff_ne.mpr a8
      have d3 := bne_iff_ne.mpr a8
      have H' := zA H
      clear H
      have p7 : 0 ≤ (a1 : Int) := zD
      have q7 : a1 < (a0.size : Int) := zD
      have c6 := bt_at a0 a1
      replace p7 := eq_true p7
      replace q7 := eq_true q7
      have b0 : 0 ≤ ((a3) : Int) := zD
      have b1 : (a3) < (a0.size : Int) := zD
      have d6 := bt_at a0 (a3)
      replace b0 := eq_true b0
      replace b1 := eq_true b1
      go_wp2
      go_roundg k1
      case measure => have := a5.out; omega
      case rel => exact ⟨(a4), (a2), (a3), zS, (by first | rfl | (simp; done) | (simp only [← a7] <;> (first | rfl | simp)) | (simp [*]; done)), H', ⟨by have := a5.out; omega⟩, ⟨zR a6.out⟩, ⟨zB⟩⟩
    ·have d0 := beq_eq_false_iff_ne.mpr c8
     have d1 := bne_iff_ne.mpr c8
     have H' := zA H
     clear H
     have p7 : 0 ≤ (a1 : Int) := zD
     have q7 : a1 < (a0.size : Int) := zD
     have c6 := bt_at a0 a1
     replace p7 := eq_true p7
     replace q7 := eq_true q7
     go_wp2
     go_roundg k1
     case measure => have := a5.out; omega
     case rel => exact ⟨(a4), (a2), (wrap64 (a1 + 1)), zS, zS, H', ⟨by have := a5.out; omega⟩, ⟨zR a6.out⟩, ⟨zB⟩⟩
   ·replace H := zC0 H
    obtain ⟨b7, H⟩ := H
    have f4 := eq_true b7
    have f5 := decide_eq_true b7
    clear b7
    replace H := zC0 H
    obtain ⟨b8, H⟩ := H
    have f6 := eq_true b8
    have f7 := decide_eq_true b8
    clear b8
    replace H := zC0 H
    obtain ⟨c7, H⟩ := H
    have d8 := zA c7
    clear c7
    obtain ⟨d9, b9⟩ : ∃ y_ : List ByteArray, y_ = (a4 ++ [a0.extract (a2 : Int).toNat a0.size]) := ⟨_, rfl⟩
    replace H : (some d9) = some r := zY b9 H
    have e0 := zA b9
    clear b9
    obtain rfl := zm H
    go_wp2_with (first | ((with_reducible refine gate_builtin (b := .append) (xs := #[.tmp 36, .tmp 40]) rfl ?_); at_builtin; refine Kd.R_append Kd.string (w0 := w) w.heap.size rfl (.tmp 36) (.tmp 40) 24 9 (.string ⟨#[]⟩) 16 rfl Tryz.underlying24 info9 rfl (by decide) (by omega) u3 a4 (a0.extract (a2 : Int).toNat a0.size) [.string (a0.extract (a2 : Int).toNat a0.size)] (fun _ => True) (fun _ => False) rfl rfl ?aP (fun _ hk => hk.elim) ?aF ?aO ?aB ?aS ?aL ?_; (case aP => exact rfl); (case aB => exact (zB)); (case aF => exact (fun _ _ => trivial)); (case aO => exact (zR a6.out)); (case aS => exact (below_size (zB))); (case aL => have := d8.out; omega); intro f8 f9 ho hb hg hat; rw [← e0.out] at ho; replace HB := zA (hb); have e1 := zA (ho); clear a6; clear ho hb hg hat))
    go_ret
    exact ⟨_, zE, zR e1.out, zB⟩
/-! ### spec_l3Digits: function 150 -/
def spec_l3Digits.l0 : Nat → ByteArray → Int → Option (Bool)
 | 0, _, _ => none
 | k + 1, x0, x3 => if x3 < (x0.size : Int) then (if 0 ≤ x3 then ((spec_l1Digit.f (bt x0 x3)).bind fun a0 => (if a0 = true then (spec_l3Digits.l0 k x0 (wrap64 (x3 + 1))) else (some false))) else (none)) else (some true)
def spec_l3Digits.f (k : Nat) (a0 : ByteArray) : Option (Bool) := spec_l3Digits.l0 k a0 0
theorem spec_l3Digits.calls (k : Nat) (a0 : ByteArray) (r : Bool) (w : World) (h : spec_l3Digits.f k a0 = some r) :
  Calls Tryz.prog 150 #[.string a0] w fun e w' => e = .returned (.bool r) ∧ Drawn0 w w' := by
 unfold spec_l3Digits.f at h
 have H := h
 clear h
 have H' := zA H
 clear H
 go_enter Tryz.func150, Tryz.ntmps150
 go_wp2
 go_loopg [3] k (fun kq v3 w' => ∃ (a1 : Int), v3 = .int .i64 a1 ∧ Aside0 (spec_l3Digits.l0 kq a0 a1 = some r) ∧ Aside0 (kq ≤ k) ∧ Drawn0 w w')
 case atStart => exact ⟨(0), zS, H', ⟨Nat.le_refl _⟩, by repeat (first | exact Drawn0.refl _ | apply Drawn0.step)⟩
 case round =>
  clear H'
  try clear c1
  obtain ⟨a1, rfl, HA, a2, ⟨m1, rfl⟩⟩ := hrel
  cases gk with
  | zero => exact absurd HA.out (by simp [spec_l3Digits.l0])
  | succ k1 =>
   have H := HA.out
   clear HA
   simp only [spec_l3Digits.l0] at H
   replace H := zI0 H
   rcases H with ⟨a4, H⟩ | ⟨a4, H⟩
   ·replace H := zD0 H
    obtain ⟨a6, H⟩ := H
    replace H := Option.bind_eq_some_iff.mp H
    obtain ⟨a7, a3, H⟩ := H
    try dsimp only at H
    have A5 := zA a3
    clear a3
    replace H := zB0 H
    rcases H with ⟨rfl, H⟩ | ⟨rfl, H⟩
    ·have H' := zA H
     clear H
     have p4 : 0 ≤ (a1 : Int) := zD
     have q4 : a1 < (a0.size : Int) := zD
     have a5 := bt_at a0 a1
     replace p4 := eq_true p4
     replace q4 := eq_true q4
     go_wp2_with (first | ((with_reducible refine zq 108 ?_); refine zg (some 13) Tryz.func108 #[.int .u8 (bt a0 a1)] ?_; (with_reducible refine (spec_l1Digit.calls (bt a0 a1) true _ A5.out).mono ?_); rintro e w' ⟨rfl, ⟨nd, rfl⟩⟩; refine ⟨_, rfl, ?_⟩))
     go_roundg k1
     case measure => have := a2.out; omega
     case rel => exact ⟨(wrap64 (a1 + 1)), zS, H', ⟨by have := a2.out; omega⟩, by repeat (first | exact Drawn0.refl _ | apply Drawn0.step)⟩
    ·obtain rfl := zm H
     have p4 : 0 ≤ (a1 : Int) := zD
     have q4 : a1 < (a0.size : Int) := zD
     have a5 := bt_at a0 a1
     replace p4 := eq_true p4
     replace q4 := eq_true q4
     go_wp2_with (first | ((with_reducible refine zq 108 ?_); refine zg (some 13) Tryz.func108 #[.int .u8 (bt a0 a1)] ?_; (with_reducible refine (spec_l1Digit.calls (bt a0 a1) false _ A5.out).mono ?_); rintro e w' ⟨rfl, ⟨nd, rfl⟩⟩; refine ⟨_, rfl, ?_⟩))
     go_ret
     exact ⟨by first | rfl | (simp; done) | (simp [*]; done) | (simp; rw [Bool.eq_iff_iff]; simp; done), by repeat (first | exact Drawn0.refl _ | apply Drawn0.step)⟩
   ·obtain rfl := zm H
    go_wp2
    go_ret
    exact ⟨by first | rfl | (simp; done) | (simp [*]; done) | (simp; rw [Bool.eq_iff_iff]; simp; done), by repeat (first | exact Drawn0.refl _ | apply Drawn0.step)⟩
/-! ### spec_l3Part: function 119 -/
mutual
def spec_l3Part.l0 : Nat → ByteArray → Int → Option (Bool)
 | 0, _, _ => none
 | k + 1, x0, x3 => if x3 < (x0.size : Int) then (spec_l3Part.j1 k x0 x3) else ((spec_l1In.f (x0.size : Int) 1 8).bind fun a0 => (if a0 = true then ((spec_l3Digits.f k x0).bind fun a1 => (if a1 = true then (if (x0.size : Int) = 1 then (some true) else (if 0 < (x0.size : Int) then (some ((bt x0 0) != 48)) else (none))) else (some true))) else (some false)))
def spec_l3Part.j1 : Nat → ByteArray → Int → Option (Bool)
 | 0, _, _ => none
 | k + 1, x0, x3 => if 0 ≤ x3 then (if x3 < (x0.size : Int) then ((spec_l1Digit.f (bt x0 x3)).bind fun a2 => (if a2 = true then (spec_l3Part.l0 k x0 (wrap64 (x3 + 1))) else ((spec_l1Small.f (bt x0 x3)).bind fun a3 => (if a3 = true then (spec_l3Part.l0 k x0 (wrap64 (x3 + 1))) else ((spec_l1In.f (wrap64 (bt x0 x3)) 65 90).bind fun a4 => (if a4 = true then (spec_l3Part.l0 k x0 (wrap64 (x3 + 1))) else (if (bt x0 x3) = 45 then (spec_l3Part.l0 k x0 (wrap64 (x3 + 1))) else (some false)))))))) else (none)) else (none)
end
def spec_l3Part.f (k : Nat) (a0 : ByteArray) : Option (Bool) := spec_l3Part.l0 k a0 0
theorem spec_l3Part.calls (k : Nat) (a0 : ByteArray) (r : Bool) (w : World) (h : spec_l3Part.f k a0 = some r) :
  Calls Tryz.prog 119 #[.string a0] w fun e w' => e = .returned (.bool r) ∧ Drawn0 w w' := by
 unfold spec_l3Part.f at h
 have H := h
 clear h
 have H' := zA H
 clear H
 go_enter Tryz.func119, Tryz.ntmps119
 go_wp2
 go_loopg [3] k (fun kq v3 w' => ∃ (a1 : Int), v3 = .int .i64 a1 ∧ Aside0 (spec_l3Part.l0 kq a0 a1 = some r) ∧ Aside0 (kq ≤ k) ∧ Drawn0 w w')
 case atStart => exact ⟨(0), zS, H', ⟨Nat.le_refl _⟩, by repeat (first | exact Drawn0.refl _ | apply Drawn0.step)⟩
 case round =>
  clear H'
  try clear c1
  obtain ⟨a1, rfl, HA, a6, ⟨m1, rfl⟩⟩ := hrel
  cases gk with
  | zero => exact absurd HA.out (by simp [spec_l3Part.l0])
  | succ k1 =>
   have H := HA.out
   clear HA
   simp only [spec_l3Part.l0] at H
   have b9 := zA H
   clear H
   go_upto_if 7 with (fail)
   go_cut [] (fun wc => ∃ (kq : Nat), Aside0 (spec_l3Part.j1 kq a0 a1 = some r) ∧ Aside0 (kq ≤ k1) ∧ Drawn0 w wc)
   case first =>
    have H := b9.out
    clear b9
    replace H := zI0 H
    rcases H with ⟨b0, H⟩ | ⟨b0, H⟩
    ·(first | rw [b0] | (simp only [i64_w, i32_w]; rw [b0]) | skip)
     have H' := zA H
     clear H
     go_wp2
     go_meet
     case rel => exact ⟨_, (by first | exact H' | (subst_vars; exact H')), ⟨by have := a6.out; first | omega | exact Nat.le_refl _⟩, by repeat (first | exact Drawn0.refl _ | apply Drawn0.step)⟩
    ·(first | rw [b0] | (simp only [i64_w, i32_w]; rw [b0]) | skip)
     replace H := Option.bind_eq_some_iff.mp H
     obtain ⟨e4, c6, H⟩ := H
     try dsimp only at H
     have A4 := zA c6
     clear c6
     replace H := zB0 H
     rcases H with ⟨rfl, H⟩ | ⟨rfl, H⟩
     ·replace H := Option.bind_eq_some_iff.mp H
      obtain ⟨e5, d0, H⟩ := H
      try dsimp only at H
      have A6 := zA d0
      clear d0
      replace H := zB0 H
      rcases H with ⟨rfl, H⟩ | ⟨rfl, H⟩
      ·replace H := zI1 H
       rcases H with ⟨c8, H⟩ | ⟨c8, H⟩
       ·have d1 := beq_iff_eq.mpr c8
        have d2 := bne_eq_false_iff_eq.mpr c8
        clear c8
        obtain rfl := zm H
        go_wp2_with (first | ((with_reducible refine zq 104 ?_); refine zg (some 38) Tryz.func104 #[.int .i64 (a0.size : Int), .int .i64 1, .int .i64 8] ?_; (with_reducible refine (spec_l1In.calls (a0.size : Int) 1 8 true _ A4.out).mono ?_); rintro e w' ⟨rfl, ⟨nd, rfl⟩⟩; refine ⟨_, rfl, ?_⟩) | (go_at_call 150; (with_reducible refine (spec_l3Digits.calls k1 a0 true _ A6.out).mono ?_); rintro e w' ⟨rfl, ⟨nd, rfl⟩⟩))
        go_ret
        exact ⟨by first | rfl | (simp; done) | (simp [*]; done) | (simp; rw [Bool.eq_iff_iff]; simp; done), by repeat (first | exact Drawn0.refl _ | apply Drawn0.step)⟩
       ·have d1 := beq_eq_false_iff_ne.mpr c8
        have d2 := bne_iff_ne.mpr c8
        replace H := zC0 H
        obtain ⟨c9, H⟩ := H
        have d7 := decide_eq_true c9
        have d8 : decide (0 < a0.size) = true := decide_eq_true (by omega)
        clear c9
        obtain rfl := zm H
        go_wp2_with (first | ((with_reducible refine zq 104 ?_); refine zg (some 38) Tryz.func104 #[.int .i64 (a0.size : Int), .int .i64 1, .int .i64 8] ?_; (with_reducible refine (spec_l1In.calls (a0.size : Int) 1 8 true _ A4.out).mono ?_); rintro e w' ⟨rfl, ⟨nd, rfl⟩⟩; refine ⟨_, rfl, ?_⟩) | (go_at_call 150; (with_reducible refine (spec_l3Digits.calls k1 a0 true _ A6.out).mono ?_); rintro e w' ⟨rfl, ⟨nd, rfl⟩⟩; have c0 : 0 ≤ (0 : Int) := (by omega); have b5 : 0 < a0.size := (by have : (0 : Int) < (a0.size : Int) := zD; omega); have d9 : ∀ h : 0 < a0.size, ((a0[0]'h).toNat : Int) = bt a0 0 := bt_at a0 0; clear c0; have e0 : (0 < (a0.size : Int)) = True := eq_true (zD); replace b5 := eq_true b5))
        go_ret
        exact ⟨by first | rfl | (simp; done) | (simp [*]; done) | (simp; rw [Bool.eq_iff_iff]; simp; done), by repeat (first | exact Drawn0.refl _ | apply Drawn0.step)⟩
      ·obtain rfl := zm H
       go_wp2_with (first | ((with_reducible refine zq 104 ?_); refine zg (some 38) Tryz.func104 #[.int .i64 (a0.size : Int), .int .i64 1, .int .i64 8] ?_; (with_reducible refine (spec_l1In.calls (a0.size : Int) 1 8 true _ A4.out).mono ?_); rintro e w' ⟨rfl, ⟨nd, rfl⟩⟩; refine ⟨_, rfl, ?_⟩) | (go_at_call 150; (with_reducible refine (spec_l3Digits.calls k1 a0 false _ A6.out).mono ?_); rintro e w' ⟨rfl, ⟨nd, rfl⟩⟩))
       go_ret
       exact ⟨by first | rfl | (simp; done) | (simp [*]; done) | (simp; rw [Bool.eq_iff_iff]; simp; done), by repeat (first | exact Drawn0.refl _ | apply Drawn0.step)⟩
     ·obtain rfl := zm H
      go_wp2_with (first | ((with_reducible refine zq 104 ?_); refine zg (some 38) Tryz.func104 #[.int .i64 (a0.size : Int), .int .i64 1, .int .i64 8] ?_; (with_reducible refine (spec_l1In.calls (a0.size : Int) 1 8 false _ A4.out).mono ?_); rintro e w' ⟨rfl, ⟨nd, rfl⟩⟩; refine ⟨_, rfl, ?_⟩))
      go_ret
      exact ⟨by first | rfl | (simp; done) | (simp [*]; done) | (simp; rw [Bool.eq_iff_iff]; simp; done), by repeat (first | exact Drawn0.refl _ | apply Drawn0.step)⟩
   case rest =>
    clear b9
    try clear c1
    try clear p1
    try clear q1
    try clear hx1
    try clear qi1
    try clear p2
    try clear c3
    try clear b0
    try clear c5
    try clear c7
    try clear c8
    try clear d1
    try clear d2
    try clear c9
    try clear d7
    try clear d8
    try clear c10
    try clear c0
    try clear b5
    try clear d9
    try clear e0
    try clear c0
    try clear b5
    obtain ⟨kq, HA, a7, ⟨e6, rfl⟩⟩ := hcut
    cases kq with
    | zero => exact absurd HA.out (by simp [spec_l3Part.j1])
    | succ b6 =>
     have H := HA.out
     clear HA
     simp only [spec_l3Part.j1] at H
     replace H := zD0 H
     obtain ⟨e7, H⟩ := H
     replace H := zD0 H
     obtain ⟨e8, H⟩ := H
     replace H := Option.bind_eq_some_iff.mp H
     obtain ⟨e9, d3, H⟩ := H
     try dsimp only at H
     have b2 := zA d3
     clear d3
     replace H := zB0 H
     rcases H with ⟨rfl, H⟩ | ⟨rfl, H⟩
     ·have H' := zA H
      clear H
      have a2 : 0 ≤ (a1 : Int) := zD
      have a3 : a1 < (a0.size : Int) := zD
      have b7 := bt_at a0 a1
      replace a2 := eq_true a2
      replace a3 := eq_true a3
      go_wp2_with (first | ((with_reducible refine zq 108 ?_); refine zg (some 13) Tryz.func108 #[.int .u8 (bt a0 a1)] ?_; (with_reducible refine (spec_l1Digit.calls (bt a0 a1) true _ b2.out).mono ?_); rintro e w' ⟨rfl, ⟨nd, rfl⟩⟩; refine ⟨_, rfl, ?_⟩))
      go_roundg b6
      case measure => have := a6.out; have := a7.out; omega
      case rel => exact ⟨(wrap64 (a1 + 1)), zS, H', ⟨by have := a6.out; have := a7.out; omega⟩, by repeat (first | exact Drawn0.refl _ | apply Drawn0.step)⟩
     ·replace H := Option.bind_eq_some_iff.mp H
      obtain ⟨f0, d4, H⟩ := H
      try dsimp only at H
      have b8 := zA d4
      clear d4
      replace H := zB0 H
      rcases H with ⟨rfl, H⟩ | ⟨rfl, H⟩
      ·have H' := zA H
       clear H
       have a2 : 0 ≤ (a1 : Int) := zD
       have a3 : a1 < (a0.size : Int) := zD
       have b7 := bt_at a0 a1
       replace a2 := eq_true a2
       replace a3 := eq_true a3
       go_wp2_with (first | ((with_reducible refine zq 108 ?_); refine zg (some 13) Tryz.func108 #[.int .u8 (bt a0 a1)] ?_; (with_reducible refine (spec_l1Digit.calls (bt a0 a1) false _ b2.out).mono ?_); rintro e w' ⟨rfl, ⟨nd, rfl⟩⟩; refine ⟨_, rfl, ?_⟩; have a4 : 0 ≤ (a1 : Int) := zD; have a5 : a1 < (a0.size : Int) := zD; have c2 := bt_at a0 a1; replace a4 := eq_true a4; replace a5 := eq_true a5) | (go_at_call 107; (with_reducible refine (spec_l1Small.calls (bt a0 a1) true _ b8.out).mono ?_); rintro e w' ⟨rfl, ⟨nd, rfl⟩⟩))
       go_roundg b6
       case measure => have := a6.out; have := a7.out; omega
       case rel => exact ⟨(wrap64 (a1 + 1)), zS, H', ⟨by have := a6.out; have := a7.out; omega⟩, by repeat (first | exact Drawn0.refl _ | apply Drawn0.step)⟩
      ·replace H := Option.bind_eq_some_iff.mp H
       obtain ⟨f1, d5, H⟩ := H
       try dsimp only at H
       have c4 := zA d5
       clear d5
       replace H := zB0 H
       rcases H with ⟨rfl, H⟩ | ⟨rfl, H⟩
       ·have H' := zA H
        clear H
        have a2 : 0 ≤ (a1 : Int) := zD
        have a3 : a1 < (a0.size : Int) := zD
        have b7 := bt_at a0 a1
        replace a2 := eq_true a2
        replace a3 := eq_true a3
        go_wp2_with (first | ((with_reducible refine zq 108 ?_); refine zg (some 13) Tryz.func108 #[.int .u8 (bt a0 a1)] ?_; (with_reducible refine (spec_l1Digit.calls (bt a0 a1) false _ b2.out).mono ?_); rintro e w' ⟨rfl, ⟨nd, rfl⟩⟩; refine ⟨_, rfl, ?_⟩; have a4 : 0 ≤ (a1 : Int) := zD; have a5 : a1 < (a0.size : Int) := zD; have c2 := bt_at a0 a1; replace a4 := eq_true a4; replace a5 := eq_true a5) | (go_at_call 107; (with_reducible refine (spec_l1Small.calls (bt a0 a1) false _ b8.out).mono ?_); rintro e w' ⟨rfl, ⟨nd, rfl⟩⟩; have a8 : 0 ≤ (a1 : Int) := zD; have a9 : a1 < (a0.size : Int) := zD; have d6 := bt_at a0 a1; replace a8 := eq_true a8; replace a9 := eq_true a9) | (go_at_call 104; (with_reducible refine (spec_l1In.calls (wrap64 (bt a0 a1)) 65 90 true _ c4.out).mono ?_); rintro e w' ⟨rfl, ⟨nd, rfl⟩⟩))
        go_roundg b6
        case measure => have := a6.out; have := a7.out; omega
        case rel => exact ⟨(wrap64 (a1 + 1)), zS, H', ⟨by have := a6.out; have := a7.out; omega⟩, by repeat (first | exact Drawn0.refl _ | apply Drawn0.step)⟩
       ·replace H := zI1 H
        rcases H with ⟨b1, H⟩ | ⟨b1, H⟩
        ·have e1 := beq_iff_eq.mpr b1
         have e2 := bne_eq_false_iff_eq.mpr b1
         clear b1
         have H' := zA H
         clear H
         have a2 : 0 ≤ (a1 : Int) := zD
         have a3 : a1 < (a0.size : Int) := zD
         have b7 := bt_at a0 a1
         replace a2 := eq_true a2
         replace a3 := eq_true a3
         go_wp2_with (first | ((with_reducible refine zq 108 ?_); refine zg (some 13) Tryz.func108 #[.int .u8 (bt a0 a1)] ?_; (with_reducible refine (spec_l1Digit.calls (bt a0 a1) false _ b2.out).mono ?_); rintro e w' ⟨rfl, ⟨nd, rfl⟩⟩; refine ⟨_, rfl, ?_⟩; have a4 : 0 ≤ (a1 : Int) := zD; have a5 : a1 < (a0.size : Int) := zD; have c2 := bt_at a0 a1; replace a4 := eq_true a4; replace a5 := eq_true a5) | (go_at_call 107; (with_reducible refine (spec_l1Small.calls (bt a0 a1) false _ b8.out).mono ?_); rintro e w' ⟨rfl, ⟨nd, rfl⟩⟩; have a8 : 0 ≤ (a1 : Int) := zD; have a9 : a1 < (a0.size : Int) := zD; have d6 := bt_at a0 a1; replace a8 := eq_true a8; replace a9 := eq_true a9) | (go_at_call 104; (with_reducible refine (spec_l1In.calls (wrap64 (bt a0 a1)) 65 90 false _ c4.out).mono ?_); rintro e w' ⟨rfl, ⟨nd, rfl⟩⟩; have b3 : 0 ≤ (a1 : Int) := zD; have b4 : a1 < (a0.size : Int) := zD; have e3 := bt_at a0 a1; replace b3 := eq_true b3; replace b4 := eq_true b4))
         go_roundg b6
         case measure => have := a6.out; have := a7.out; omega
         case rel => exact ⟨(wrap64 (a1 + 1)), zS, H', ⟨by have := a6.out; have := a7.out; omega⟩, by repeat (first | exact Drawn0.refl _ | apply Drawn0.step)⟩
        ·have e1 := beq_eq_false_iff_ne.mpr b1
         have e2 := bne_iff_ne.mpr b1
         obtain rfl := zm H
         have a2 : 0 ≤ (a1 : Int) := zD
         have a3 : a1 < (a0.size : Int) := zD
         have b7 := bt_at a0 a1
         replace a2 := eq_true a2
         replace a3 := eq_true a3
         go_wp2_with (first | ((with_reducible refine zq 108 ?_); refine zg (some 13) Tryz.func108 #[.int .u8 (bt a0 a1)] ?_; (with_reducible refine (spec_l1Digit.calls (bt a0 a1) false _ b2.out).mono ?_); rintro e w' ⟨rfl, ⟨nd, rfl⟩⟩; refine ⟨_, rfl, ?_⟩; have a4 : 0 ≤ (a1 : Int) := zD; have a5 : a1 < (a0.size : Int) := zD; have c2 := bt_at a0 a1; replace a4 := eq_true a4; replace a5 := eq_true a5) | (go_at_call 107; (with_reducible refine (spec_l1Small.calls (bt a0 a1) false _ b8.out).mono ?_); rintro e w' ⟨rfl, ⟨nd, rfl⟩⟩; have a8 : 0 ≤ (a1 : Int) := zD; have a9 : a1 < (a0.size : Int) := zD; have d6 := bt_at a0 a1; replace a8 := eq_true a8; replace a9 := eq_true a9) | (go_at_call 104; (with_reducible refine (spec_l1In.calls (wrap64 (bt a0 a1)) 65 90 false _ c4.out).mono ?_); rintro e w' ⟨rfl, ⟨nd, rfl⟩⟩; have b3 : 0 ≤ (a1 : Int) := zD; have b4 : a1 < (a0.size : Int) := zD; have e3 := bt_at a0 a1; replace b3 := eq_true b3; replace b4 := eq_true b4))
         go_ret
         exact ⟨by first | rfl | (simp; done) | (simp [*]; done) | (simp; rw [Bool.eq_iff_iff]; simp; done), by repeat (first | exact Drawn0.refl _ | apply Drawn0.step)⟩
/-! ### spec_VerOk: function 68 -/
def spec_VerOk.l0 : Nat → Int → Int → Int → Int → List ByteArray → Option (Bool)
 | 0, _, _, _, _, _ => none
 | k + 1, x3, a1, a2, a3, a0 => if x3 < (a0.length : Int) then (if 0 ≤ x3 then ((spec_l3Part.f k (rdOf ByteArray.empty a0 x3)).bind fun a4 => (if a4 = true then (spec_VerOk.l0 k (wrap64 (x3 + 1)) a1 a2 a3 a0) else (some false))) else (none)) else ((spec_l1In.f a1 0 9999).bind fun a5 => (if a5 = true then ((spec_l1In.f a2 0 9999).bind fun a6 => (if a6 = true then ((spec_l1In.f a3 0 9999).bind fun a7 => (if a7 = true then (some (decide ((a0.length : Int) ≤ 3))) else (some false))) else (some false))) else (some false)))
def spec_VerOk.f (k : Nat) (a0 a1 a2 : Int) (a3 : List ByteArray) : Option (Bool) := spec_VerOk.l0 k 0 a0 a1 a2 a3
theorem spec_VerOk.calls (k : Nat) (a2 a4 a5 : Int) (a9 : Option Addr) (b0 : Nat) (a0 : List ByteArray) (r : Bool) (w : World) (b3 : Kd.C Kd.string w a9 a0.length a0) (b4 : a0.length ≤ b0) (h : spec_VerOk.f k a2 a4 a5 a0 = some r) :
  Calls Tryz.prog 68 #[.agg #[.int .i64 a2, .int .i64 a4, .int .i64 a5, .slice a9 a0.length b0]] w fun e w' => e = .returned (.bool r) ∧ Below w.heap.size w w' := by
 have c5 := Tryz.underlying32
 have b5 := zA b3
 have c6 := zA b4
 clear b3 b4
 have HB := zA (Below.refl w.heap.size w)
 unfold spec_VerOk.f at h
 have H := h
 clear h
 have H' := zA H
 clear H
 go_enter Tryz.func68, Tryz.ntmps68
 go_wp2_with (first | ((with_reducible refine gate_dst (N := 1) rfl ?_); (try (refine gate_guard (by rfl) ?_; dsimp only)); refine box_event ?hg (N := 1) ?hd (cs := #[.int .i64 a2, .int .i64 a4, .int .i64 a5, .slice a9 a0.length b0]) (t := 32) ?hr ?_; (case hd => rfl); (case hg => rfl); (case hr => first | (go_simp; done) | (go_simp; rfl)); intro c2 hg w2 hbox hb; have a3 := zA (hbox); have c7 := zi HB hg; have c8 := zi HB hg; replace HB := zA (below_step (zB) hb); clear hb hbox hg))
 go_loopg [3] k (fun kq v3 w' => ∃ (a1 : Int), v3 = .int .i64 a1 ∧ Aside0 (spec_VerOk.l0 kq a1 a2 a4 a5 a0 = some r) ∧ Aside0 (kq ≤ k) ∧ Aside0 (w'.heap[c2]? = some (.cells #[.int .i64 a2, .int .i64 a4, .int .i64 a5, (.slice a9 a0.length b0)] 32 (0, 0))) ∧ Aside0 (Below w.heap.size w w'))
 case atStart => exact ⟨(0), zS, H', ⟨Nat.le_refl _⟩, ⟨zK a3.out⟩, ⟨zW HB.out⟩⟩
 case round =>
  clear H'
  try clear p2
  obtain ⟨a1, rfl, HA, b6, a3, HB⟩ := hrel
  cases gk with
  | zero => exact absurd HA.out (by simp [spec_VerOk.l0])
  | succ k1 =>
   have H := HA.out
   clear HA
   simp only [spec_VerOk.l0] at H
   replace H := zI0 H
   rcases H with ⟨c3, H⟩ | ⟨c3, H⟩
   ·replace H := zD0 H
    obtain ⟨c9, H⟩ := H
    replace H := Option.bind_eq_some_iff.mp H
    obtain ⟨d0, b7, H⟩ := H
    try dsimp only at H
    have A5 := zA b7
    clear b7
    replace H := zB0 H
    rcases H with ⟨rfl, H⟩ | ⟨rfl, H⟩
    ·have H' := zA H
     clear H
     obtain ⟨d1, d2, d3, d4, d5, d6, d7, d8⟩ := ze4 a3.out
     have a6 : 0 ≤ (a1 : Int) := zD
     have a7 : a1 < (a0.length : Int) := zD
     obtain ⟨c4, b1, a8⟩ := Kd.at_string b5.out a1 a6 a7
     cases b1
     replace a8 := zx HB a8
     replace a6 := eq_true a6
     replace a7 := eq_true a7
     go_wp2_with (first | ((with_reducible refine zq 119 ?_); refine zg (some 16) Tryz.func119 #[.string (rdOf ByteArray.empty a0 a1)] ?_; (with_reducible refine (spec_l3Part.calls k1 (rdOf ByteArray.empty a0 a1) true _ A5.out).mono ?_); rintro e w' ⟨rfl, ⟨nd, rfl⟩⟩; refine ⟨_, rfl, ?_⟩))
     go_roundg k1
     case measure => have := b6.out; omega
     case rel => exact ⟨(wrap64 (a1 + 1)), zS, H', ⟨by have := b6.out; omega⟩, ⟨zK a3.out⟩, ⟨zW HB.out⟩⟩
    ·obtain rfl := zm H
     obtain ⟨d9, e0, e1, e2, e3, e4, e5, e6⟩ := ze4 a3.out
     have a6 : 0 ≤ (a1 : Int) := zD
     have a7 : a1 < (a0.length : Int) := zD
     obtain ⟨c4, b1, a8⟩ := Kd.at_string b5.out a1 a6 a7
     cases b1
     replace a8 := zx HB a8
     replace a6 := eq_true a6
     replace a7 := eq_true a7
     go_wp2_with (first | ((with_reducible refine zq 119 ?_); refine zg (some 16) Tryz.func119 #[.string (rdOf ByteArray.empty a0 a1)] ?_; (with_reducible refine (spec_l3Part.calls k1 (rdOf ByteArray.empty a0 a1) false _ A5.out).mono ?_); rintro e w' ⟨rfl, ⟨nd, rfl⟩⟩; refine ⟨_, rfl, ?_⟩))
     go_ret
     exact ⟨zE, zW HB.out⟩
   ·replace H := Option.bind_eq_some_iff.mp H
    obtain ⟨e7, b8, H⟩ := H
    try dsimp only at H
    have A9 := zA b8
    clear b8
    replace H := zB0 H
    rcases H with ⟨rfl, H⟩ | ⟨rfl, H⟩
    ·replace H := Option.bind_eq_some_iff.mp H
     obtain ⟨e8, b9, H⟩ := H
     try dsimp only at H
     have b2 := zA b9
     clear b9
     replace H := zB0 H
     rcases H with ⟨rfl, H⟩ | ⟨rfl, H⟩
     ·replace H := Option.bind_eq_some_iff.mp H
      obtain ⟨e9, c0, H⟩ := H
      try dsimp only at H
      have c1 := zA c0
      clear c0
      replace H := zB0 H
      rcases H with ⟨rfl, H⟩ | ⟨rfl, H⟩
      ·obtain rfl := zm H
       obtain ⟨f0, f1, f2, f3, f4, f5, f6, f7⟩ := ze4 a3.out
       go_wp2_with (first | ((with_reducible refine zq 104 ?_); refine zg (some 20) Tryz.func104 #[.int .i64 a2, .int .i64 0, .int .i64 9999] ?_; (with_reducible refine (spec_l1In.calls a2 0 9999 true _ A9.out).mono ?_); rintro e w' ⟨rfl, ⟨nd, rfl⟩⟩; refine ⟨_, rfl, ?_⟩) | (go_at_call 104; (with_reducible refine (spec_l1In.calls a4 0 9999 true _ b2.out).mono ?_); rintro e w' ⟨rfl, ⟨nd, rfl⟩⟩) | (go_at_call 104; (with_reducible refine (spec_l1In.calls a5 0 9999 true _ c1.out).mono ?_); rintro e w' ⟨rfl, ⟨nd, rfl⟩⟩))
       go_ret
       exact ⟨zE, zW HB.out⟩
      ·obtain rfl := zm H
       obtain ⟨f8, f9, g0, g1, g2, g3, g4, g5⟩ := ze4 a3.out
       go_wp2_with (first | ((with_reducible refine zq 104 ?_); refine zg (some 20) Tryz.func104 #[.int .i64 a2, .int .i64 0, .int .i64 9999] ?_; (with_reducible refine (spec_l1In.calls a2 0 9999 true _ A9.out).mono ?_); rintro e w' ⟨rfl, ⟨nd, rfl⟩⟩; refine ⟨_, rfl, ?_⟩) | (go_at_call 104; (with_reducible refine (spec_l1In.calls a4 0 9999 true _ b2.out).mono ?_); rintro e w' ⟨rfl, ⟨nd, rfl⟩⟩) | (go_at_call 104; (with_reducible refine (spec_l1In.calls a5 0 9999 false _ c1.out).mono ?_); rintro e w' ⟨rfl, ⟨nd, rfl⟩⟩))
       go_ret
       exact ⟨zE, zW HB.out⟩
     ·obtain rfl := zm H
      obtain ⟨g6, g7, g8, g9, h0, h1, h2, h3⟩ := ze4 a3.out
      go_wp2_with (first | ((with_reducible refine zq 104 ?_); refine zg (some 20) Tryz.func104 #[.int .i64 a2, .int .i64 0, .int .i64 9999] ?_; (with_reducible refine (spec_l1In.calls a2 0 9999 true _ A9.out).mono ?_); rintro e w' ⟨rfl, ⟨nd, rfl⟩⟩; refine ⟨_, rfl, ?_⟩) | (go_at_call 104; (with_reducible refine (spec_l1In.calls a4 0 9999 false _ b2.out).mono ?_); rintro e w' ⟨rfl, ⟨nd, rfl⟩⟩))
      go_ret
      exact ⟨zE, zW HB.out⟩
    ·obtain rfl := zm H
     obtain ⟨h4, h5, h6, h7, h8, h9, i0, i1⟩ := ze4 a3.out
     go_wp2_with (first | ((with_reducible refine zq 104 ?_); refine zg (some 20) Tryz.func104 #[.int .i64 a2, .int .i64 0, .int .i64 9999] ?_; (with_reducible refine (spec_l1In.calls a2 0 9999 false _ A9.out).mono ?_); rintro e w' ⟨rfl, ⟨nd, rfl⟩⟩; refine ⟨_, rfl, ?_⟩))
     go_ret
     exact ⟨zE, zW HB.out⟩
/-! ### spec_Split: function 78 -/
def spec_Split.l0 : Nat → ByteArray → Int → List ByteArray → Int → Int → Option (List ByteArray)
 | 0, _, _, _, _, _ => none
 | k + 1, x0, x1, x5, x6, x7 => if x7 ≤ (x0.size : Int) then (if x7 = (x0.size : Int) then (if 0 ≤ x6 then (if x6 ≤ x7 then (if x5.length < 8796093022208 then (spec_Split.l0 k x0 x1 (x5 ++ [x0.extract (x6 : Int).toNat (x7 : Int).toNat]) (wrap64 (x7 + 1)) (wrap64 (x7 + 1))) else (none)) else (none)) else (none)) else (if 0 ≤ x7 then (if x7 < (x0.size : Int) then (if (bt x0 x7) = x1 then (if 0 ≤ x6 then (if x6 ≤ x7 then (if x5.length < 8796093022208 then (spec_Split.l0 k x0 x1 (x5 ++ [x0.extract (x6 : Int).toNat (x7 : Int).toNat]) (wrap64 (x7 + 1)) (wrap64 (x7 + 1))) else (none)) else (none)) else (none)) else (spec_Split.l0 k x0 x1 x5 x6 (wrap64 (x7 + 1)))) else (none)) else (none))) else (some x5)
def spec_Split.f (k : Nat) (a0 : ByteArray) (a1 : Int) : Option (List ByteArray) := spec_Split.l0 k a0 a1 (([] : List ByteArray)) 0 0
theorem spec_Split.calls (k : Nat) (a0 : ByteArray) (a1 : Int) (r : List ByteArray) (w : World) (h : spec_Split.f k a0 a1 = some r) :
  Calls Tryz.prog 78 #[.string a0, .int .u8 a1] w fun e w' => ∃ b6 : Value, e = .returned (b6) ∧ Kd.R Kd.string 9 w' w.heap.size (fun _ => True) b6 r ∧ Below w.heap.size w w' := by
 have HB := zA (Below.refl w.heap.size w)
 unfold spec_Split.f at h
 have H := h
 clear h
 obtain ⟨b7, b1⟩ : ∃ y_ : List ByteArray, y_ = (([] : List ByteArray)) := ⟨_, rfl⟩
 replace H : (spec_Split.l0 k a0 a1 b7 0 0) = some r := zY b1 H
 have b8 := zA b1
 clear b1
 have H' := zA H
 clear H
 go_enter Tryz.func78, Tryz.ntmps78
 go_wp2_with (first | ((with_reducible refine gate_dst (N := 8) rfl ?_); refine Kd.R_lit Kd.string _ 9 ?hg (N := 8) ?hd (xs := ([] : List ByteArray)) (inner := []) (ok := fun _ => True) ?hr ?hp (fun _ hk => hk) trivial (Below.refl _ _) (Nat.le_refl _) (by simp) ?_; (case hd => rfl); (case hg => rfl); (case hr => first | (go_simp; done) | (go_simp; rfl)); (case hp => exact (Reps.none _ _)); intro d9 w3 a8 hb hg_ hnew_; clear hg_ hnew_; (first | rw [← b8.out] at a8 | (simp only [Int.reduceToNat] at a8; rw [← b8.out] at a8)); have c3 := zA (Kd.R_lower a8 (below_size (zB))); replace HB := zA (below_step (zB) hb); clear hb a8))
 go_loopg [5, 6, 7] k (fun kq v5 v6 v7 w' => ∃ (a4 : List ByteArray) (a3 : Int) (a2 : Int), v6 = .int .i64 a3 ∧ v7 = .int .i64 a2 ∧ Aside0 (spec_Split.l0 kq a0 a1 a4 a3 a2 = some r) ∧ Aside0 (kq ≤ k) ∧ Aside0 (Kd.R Kd.string 9 w' w.heap.size (fun _ => True) v5 a4) ∧ Aside0 (Below w.heap.size w w'))
 case atStart => exact ⟨(b7), (0), (0), zS, zS, H', ⟨Nat.le_refl _⟩, ⟨zR c3.out⟩, ⟨zB⟩⟩
 case round =>
  clear H'
  try clear p2
  obtain ⟨a4, a3, a2, rfl, rfl, HA, a5, a6, HB⟩ := hrel
  cases gk with
  | zero => exact absurd HA.out (by simp [spec_Split.l0])
  | succ k1 =>
   have H := HA.out
   clear HA
   simp only [spec_Split.l0] at H
   replace H := zI0 H
   rcases H with ⟨c4, H⟩ | ⟨c4, H⟩
   ·replace H := zI1 H
    rcases H with ⟨c6, H⟩ | ⟨c6, H⟩
    ·have c5 := beq_iff_eq.mpr c6
     have c9 := bne_eq_false_iff_eq.mpr c6
     clear c6
     replace H := zC0 H
     obtain ⟨c7, H⟩ := H
     have e0 := eq_true c7
     have e1 := decide_eq_true c7
     clear c7
     replace H := zC0 H
     obtain ⟨c8, H⟩ := H
     have e2 := eq_true c8
     have e3 := decide_eq_true c8
     clear c8
     have e4 := eq_true (zD : a2 ≤ (a0.size : Int))
     replace H := zC0 H
     obtain ⟨b9, H⟩ := H
     have d0 := zA b9
     clear b9
     obtain ⟨c0, b2⟩ : ∃ y_ : List ByteArray, y_ = (a4 ++ [a0.extract (a3 : Int).toNat (a2 : Int).toNat]) := ⟨_, rfl⟩
     replace H : (spec_Split.l0 k1 a0 a1 c0 (wrap64 (a2 + 1)) (wrap64 (a2 + 1))) = some r := zY b2 H
     have d1 := zA b2
     clear b2
     have H' := zA H
     clear H
     go_wp2_with (first | ((with_reducible refine gate_builtin (b := .append) (xs := #[.tmp 26, .tmp 31]) rfl ?_); at_builtin; refine Kd.R_append Kd.string (w0 := w) w.heap.size rfl (.tmp 26) (.tmp 31) 24 9 (.string ⟨#[]⟩) 16 rfl Tryz.underlying24 info9 rfl (by decide) (by omega) u5 a4 (a0.extract (a3 : Int).toNat (a2 : Int).toNat) [.string (a0.extract (a3 : Int).toNat (a2 : Int).toNat)] (fun _ => True) (fun _ => False) rfl rfl ?aP (fun _ hk => hk.elim) ?aF ?aO ?aB ?aS ?aL ?_; (case aP => exact rfl); (case aB => exact (zB)); (case aF => exact (fun _ _ => trivial)); (case aO => exact (zR a6.out)); (case aS => exact (below_size (zB))); (case aL => have := d0.out; omega); intro e5 e6 ho hb hg hat; rw [← d1.out] at ho; replace HB := zA (hb); have d2 := zA (ho); clear a6; clear ho hb hg hat))
     go_roundg k1
     case measure => have := a5.out; omega
     case rel => exact ⟨(c0), (wrap64 (a2 + 1)), (wrap64 (a2 + 1)), zS, zS, H', ⟨by have := a5.out; omega⟩, ⟨zR d2.out⟩, ⟨zB⟩⟩
    ·have c5 := beq_eq_false_iff_ne.mpr c6
     have c9 := bne_iff_ne.mpr c6
     replace H := zD0 H
     obtain ⟨e7, H⟩ := H
     replace H := zD0 H
     obtain ⟨e8, H⟩ := H
     replace H := zI1 H
     rcases H with ⟨a7, H⟩ | ⟨a7, H⟩
     ·have d3 := beq_iff_eq.mpr a7
      have d4 := bne_eq_false_iff_eq.mpr a7
      clear a7
      replace H := zC0 H
      obtain ⟨b3, H⟩ := H
      have e9 := eq_true b3
      have f0 := decide_eq_true b3
      clear b3
      replace H := zC0 H
      obtain ⟨b4, H⟩ := H
      have f1 := eq_true b4
      have f2 := decide_eq_true b4
      clear b4
      have f3 := eq_true (zD : a2 ≤ (a0.size : Int))
      replace H := zC0 H
      obtain ⟨c1, H⟩ := H
      have d5 := zA c1
      clear c1
      obtain ⟨c2, b5⟩ : ∃ y_ : List ByteArray, y_ = (a4 ++ [a0.extract (a3 : Int).toNat (a2 : Int).toNat]) := ⟨_, rfl⟩
      replace H : (spec_Split.l0 k1 a0 a1 c2 (wrap64 (a2 + 1)) (wrap64 (a2 + 1))) = some r := zY b5 H
      have d6 := zA b5
      clear b5
      have H' := zA H
      clear H
      have a9 : 0 ≤ (a2 : Int) := zD
      have b0 : a2 < (a0.size : Int) := zD
      have d7 := bt_at a0 a2
      replace a9 := eq_true a9
      replace b0 := eq_true b0
      go_wp2_with (first | ((with_reducible refine gate_builtin (b := .append) (xs := #[.tmp 26, .tmp 31]) rfl ?_); at_builtin; refine Kd.R_append Kd.string (w0 := w) w.heap.size rfl (.tmp 26) (.tmp 31) 24 9 (.string ⟨#[]⟩) 16 rfl Tryz.underlying24 info9 rfl (by decide) (by omega) u5 a4 (a0.extract (a3 : Int).toNat (a2 : Int).toNat) [.string (a0.extract (a3 : Int).toNat (a2 : Int).toNat)] (fun _ => True) (fun _ => False) rfl rfl ?aP (fun _ hk => hk.elim) ?aF ?aO ?aB ?aS ?aL ?_; (case aP => exact rfl); (case aB => exact (zB)); (case aF => exact (fun _ _ => trivial)); (case aO => exact (zR a6.out)); (case aS => exact (below_size (zB))); (case aL => have := d5.out; omega); intro f4 f5 ho hb hg hat; rw [← d6.out] at ho; replace HB := zA (hb); have d8 := zA (ho); clear a6; clear ho hb hg hat))
      go_roundg k1
      case measure => have := a5.out; omega
      case rel => exact ⟨(c2), (wrap64 (a2 + 1)), (wrap64 (a2 + 1)), zS, zS, H', ⟨by have := a5.out; omega⟩, ⟨zR d8.out⟩, ⟨zB⟩⟩
     ·have d3 := beq_eq_false_iff_ne.mpr a7
      have d4 := bne_iff_ne.mpr a7
      have H' := zA H
      clear H
      have a9 : 0 ≤ (a2 : Int) := zD
      have b0 : a2 < (a0.size : Int) := zD
      have d7 := bt_at a0 a2
      replace a9 := eq_true a9
      replace b0 := eq_true b0
      go_wp2
      go_roundg k1
      case measure => have := a5.out; omega
      case rel => exact ⟨(a4), (a3), (wrap64 (a2 + 1)), zS, zS, H', ⟨by have := a5.out; omega⟩, ⟨zR a6.out⟩, ⟨zB⟩⟩
   ·obtain rfl := zm H
    go_wp2
    go_ret
    exact ⟨_, zE, zR a6.out, zB⟩
end Go.Proofs.YtpcdhoeoefoeoaaGreatDoor.PGD
