/- The walks of the functions that these laws reach, and what each comes to: printed by this session's program. -/
import Derived.Test.YtpcdhoeoefoeoaaGreatDoorZGEPGEx0
import Derived.Test.YtpcdhoeoefoeoaaGreatDoorZGESays
namespace Go.Proofs.YtpcdhoeoefoeoaaGreatDoor.PGE
open Go.RowKit YtpcdhoeoefoeoaaGreatDoorW.PrintWords YtpcdhoeoefoeoaaGreatDoorW.PrintLast YtpcdhoeoefoeoaaGreatDoorW.PrintMore
attribute [local go_sem high] Mine.str_gtr Mine.str_leq Mine.str_geq
attribute [local go_sem] max2_int min2_int max_two min_two max_three min_three max_four min_four   -- for this text's walks alone
set_option linter.unusedVariables false
set_option maxHeartbeats 8000000
set_option maxRecDepth 100000
set_option linter.unusedSimpArgs false
/-! ### laws_szStringS: function 48 -/
mutual
def laws_szStringS.j0 : Nat → List ByteArray → Int → Option (Int)
 | 0, _, _ => none
 | k + 1, x0, x1 => laws_szStringS.l0 k x0 x1 0
def laws_szStringS.l0 : Nat → List ByteArray → Int → Int → Option (Int)
 | 0, _, _, _ => none
 | k + 1, x0, x1, x5 => if x5 < (x0.length : Int) then (if 0 ≤ x5 then (if (wrap64 (x1 - ((rdOf ByteArray.empty x0 x5).size : Int))) < 0 then (some (-1)) else (laws_szStringS.l0 k x0 (wrap64 (x1 - ((rdOf ByteArray.empty x0 x5).size : Int))) (wrap64 (x5 + 1)))) else (none)) else (some x1)
end
def laws_szStringS.f (k : Nat) (l0 : List ByteArray) (a1 : Int) : Option (Int) := if (wrap64 (a1 - (l0.length : Int))) < 0 then (some (-1)) else (laws_szStringS.j0 k l0 (wrap64 (a1 - (l0.length : Int))))
theorem laws_szStringS.calls (k : Nat) (A0 : Option Addr) (c0 : Nat) (l0 : List ByteArray) (a1 r : Int) (w : World) (a8 : Kd.C Kd.string w A0 l0.length l0) (a9 : l0.length ≤ c0) (h : laws_szStringS.f k l0 a1 = some r) :
  Calls Tryz.prog 48 #[.slice A0 l0.length c0, .int .i64 a1] w fun e w' => e = .returned (.int .i64 r) ∧ Drawn0 w w' := by
 have b0 := zA a8
 have b8 := zA a9
 clear a8 a9
 unfold laws_szStringS.f at h
 have H := h
 clear h
 have a6 := zA H
 clear H
 go_enter Tryz.func48, Tryz.ntmps48
 go_upto_if 11 with (fail)
 go_cut [] (fun wc => ∃ (kq : Nat), Aside0 (laws_szStringS.j0 kq l0 (wrap64 (a1 - (l0.length : Int))) = some r) ∧ Aside0 (kq ≤ k) ∧ Drawn0 w wc)
 case first =>
  have H := a6.out; clear a6; replace H := zI0 H
  rcases H with ⟨a2, H⟩ | ⟨a2, H⟩
  ·(first | rw [a2] | (simp only [i64_w, i32_w]; rw [a2]) | skip)
   obtain rfl := zm H
   go_wp2
   go_ret
   exact ⟨by first | rfl | (simp; done) | (simp [*]; done) | (simp; rw [Bool.eq_iff_iff]; simp; done), by repeat (first | exact Drawn0.refl _ | apply Drawn0.step)⟩
  (first | rw [a2] | (simp only [i64_w, i32_w]; rw [a2]) | skip)
  have H' := zA H; clear H
  go_wp2
  go_meet
  case rel => exact ⟨_, (by first | exact H' | (subst_vars; exact H')), ⟨by first | omega | exact Nat.le_refl _⟩, by repeat (first | exact Drawn0.refl _ | apply Drawn0.step)⟩
 case rest =>
  clear a6
  try clear p2
  try clear c4
  try clear a2
  obtain ⟨kq, HA, b1, ⟨b9, rfl⟩⟩ := hcut
  cases kq with
  | zero => exact absurd HA.out (by simp [laws_szStringS.j0])
  | succ b2 =>
   have H := HA.out; clear HA; simp only [laws_szStringS.j0] at H; have H' := zA H; clear H
   go_wp2
   go_loopg [1, 5] b2 (fun kq v1 v5 w' => ∃ (a5 : Int) (a0 : Int), v1 = .int .i64 a5 ∧ v5 = .int .i64 a0 ∧ Aside0 (laws_szStringS.l0 kq l0 a5 a0 = some r) ∧ Aside0 (kq ≤ b2) ∧ Drawn0 w w')
   case atStart => exact ⟨((wrap64 (a1 - (l0.length : Int)))), (0), zS, zS, H', ⟨Nat.le_refl _⟩, by repeat (first | exact Drawn0.refl _ | apply Drawn0.step)⟩
   case round =>
    clear H'
    try clear c2
    try clear p2
    try clear c4
    try clear a2
    try clear p2
    obtain ⟨a5, a0, rfl, rfl, HA, b3, ⟨m2, rfl⟩⟩ := hrel
    cases gk with
    | zero => exact absurd HA.out (by simp [laws_szStringS.l0])
    | succ k2 =>
     have H := HA.out; clear HA; simp only [laws_szStringS.l0] at H; replace H := zI0 H
     rcases H with ⟨b4, H⟩ | ⟨b4, H⟩
     ·replace H := zD0 H; obtain ⟨c1, H⟩ := H; replace H := zI0 H
      rcases H with ⟨b5, H⟩ | ⟨b5, H⟩
      ·obtain rfl := zm H; have a3 : 0 ≤ (a0 : Int) := zD; have a4 : a0 < (l0.length : Int) := zD; obtain ⟨b6, a7, b7⟩ := Kd.at_string b0.out a0 a3 a4; cases a7; replace a3 := eq_true a3; replace a4 := eq_true a4
       go_wp2
       go_ret
       exact ⟨by first | rfl | (simp; done) | (simp [*]; done) | (simp; rw [Bool.eq_iff_iff]; simp; done), by repeat (first | exact Drawn0.refl _ | apply Drawn0.step)⟩
      have H' := zA H; clear H; have a3 : 0 ≤ (a0 : Int) := zD; have a4 : a0 < (l0.length : Int) := zD; obtain ⟨b6, a7, b7⟩ := Kd.at_string b0.out a0 a3 a4; cases a7; replace a3 := eq_true a3; replace a4 := eq_true a4
      go_wp2
      go_roundg k2
      case measure => have := b1.out; have := b3.out; omega
      case rel => exact ⟨(wrap64 (a5 - ((rdOf ByteArray.empty l0 a0).size : Int))), (wrap64 (a0 + 1)), zS, zS, H', ⟨by have := b1.out; have := b3.out; omega⟩, by repeat (first | exact Drawn0.refl _ | apply Drawn0.step)⟩
     obtain rfl := zm H
     go_wp2
     go_ret
     exact ⟨by first | rfl | (simp; done) | (simp [*]; done) | (simp; rw [Bool.eq_iff_iff]; simp; done), by repeat (first | exact Drawn0.refl _ | apply Drawn0.step)⟩
/-! ### laws_szNeed: function 9 -/
def laws_szNeed.f (a0 a2 : ByteArray) (a1 : Int) : Option (Int) := if (wrap64 (a1 - (a0.size : Int))) < 0 then (some (-1)) else (if (wrap64 ((wrap64 (a1 - (a0.size : Int))) - (a2.size : Int))) < 0 then (some (-1)) else (some (wrap64 ((wrap64 (a1 - (a0.size : Int))) - (a2.size : Int)))))
theorem laws_szNeed.calls (a2 a3 : ByteArray) (a1 r : Int) (w : World) (h : laws_szNeed.f a2 a3 a1 = some r) :
  Calls Tryz.prog 9 #[.agg #[.string a2, .string a3], .int .i64 a1] w fun e w' => e = .returned (.int .i64 r) ∧ Below w.heap.size w w' := by
 have a6 := Tryz.underlying23
 have HB := zA (Below.refl w.heap.size w)
 unfold laws_szNeed.f at h
 have H := h
 clear h
 go_enter Tryz.func9, Tryz.ntmps9
 go_upto_if 11 with (first | ((with_reducible refine zd 2 ?_); refine ze 2 23 #[.string a2, .string a3] ?_; intro a7 hg w4 hbox hb; have a5 := zA (hbox); have a8 := zi HB hg; have a9 := zi HB hg; replace HB := zA (below_step (zB) hb); clear hb hbox hg; obtain ⟨b0, b1, b2, b3⟩ := ze2 a5.out))
 (try simp only [Act.put, zT])
 replace H := zI0 H
 rcases H with ⟨a0, H⟩ | ⟨a0, H⟩
 ·obtain rfl := zm H
  (try simp only [a0])
  go_wp2
  go_ret
  exact ⟨zE, zW HB.out⟩
 replace H := zI0 H
 rcases H with ⟨a4, H⟩ | ⟨a4, H⟩
 ·obtain rfl := zm H
  (try simp only [a0, a4])
  go_wp2
  go_ret
  exact ⟨zE, zW HB.out⟩
 obtain rfl := zm H
 (try simp only [a0, a4])
 go_wp2
 go_ret
 exact ⟨zE, zW HB.out⟩
/-! ### laws_szNeedS: function 51 -/
mutual
def laws_szNeedS.j0 : Nat → List (S23) → Int → Option (Int)
 | 0, _, _ => none
 | k + 1, x0, x1 => laws_szNeedS.l0 k x0 x1 0
def laws_szNeedS.l0 : Nat → List (S23) → Int → Int → Option (Int)
 | 0, _, _, _ => none
 | k + 1, x0, x1, x5 => if x5 < (x0.length : Int) then (if 0 ≤ x5 then ((laws_szNeed.f ((rd_T23 x0 x5).f0) ((rd_T23 x0 x5).f1) x1).bind fun a0 => (if a0 < 0 then (some (-1)) else (laws_szNeedS.l0 k x0 a0 (wrap64 (x5 + 1))))) else (none)) else (some x1)
end
def laws_szNeedS.f (k : Nat) (l0 : List (S23)) (a1 : Int) : Option (Int) := if (wrap64 (a1 - (l0.length : Int))) < 0 then (some (-1)) else (laws_szNeedS.j0 k l0 (wrap64 (a1 - (l0.length : Int))))
theorem laws_szNeedS.calls (k : Nat) (A0 : Option Addr) (c0 : Nat) (l0 : List (S23)) (a1 r : Int) (w : World) (b1 : Kd.C k23 w A0 l0.length l0) (b2 : l0.length ≤ c0) (h : laws_szNeedS.f k l0 a1 = some r) :
  Calls Tryz.prog 51 #[.slice A0 l0.length c0, .int .i64 a1] w fun e w' => e = .returned (.int .i64 r) ∧ Below w.heap.size w w' := by
 have c2 := Tryz.underlying23
 have b3 := zA b1
 have c3 := zA b2
 clear b1 b2
 have HB := zA (Below.refl w.heap.size w)
 unfold laws_szNeedS.f at h
 have H := h
 clear h
 have a8 := zA H
 clear H
 go_enter Tryz.func51, Tryz.ntmps51
 go_upto_if 11 with (fail)
 go_cut [] (fun wc => ∃ (kq : Nat), Aside0 (laws_szNeedS.j0 kq l0 (wrap64 (a1 - (l0.length : Int))) = some r) ∧ Aside0 (kq ≤ k) ∧ Aside0 (Below w.heap.size w wc))
 case first =>
  have H := a8.out; clear a8; replace H := zI0 H
  rcases H with ⟨a2, H⟩ | ⟨a2, H⟩
  ·(first | rw [a2] | (simp only [i64_w, i32_w]; rw [a2]) | skip)
   obtain rfl := zm H
   go_wp2
   go_ret
   exact ⟨zE, zB⟩
  (first | rw [a2] | (simp only [i64_w, i32_w]; rw [a2]) | skip)
  have H' := zA H; clear H
  go_wp2
  go_meet
  case rel => exact ⟨_, (by first | exact H' | (subst_vars; exact H')), ⟨by first | omega | exact Nat.le_refl _⟩, ⟨zB⟩⟩
 case rest =>
  clear a8
  try clear p2
  try clear c4
  try clear a2
  obtain ⟨kq, HA, b4, HB⟩ := hcut
  cases kq with
  | zero => exact absurd HA.out (by simp [laws_szNeedS.j0])
  | succ b5 =>
   have H := HA.out; clear HA; simp only [laws_szNeedS.j0] at H; have H' := zA H; clear H
   go_wp2
   go_loopg [1, 5] b5 (fun kq v1 v5 w' => ∃ (a3 : Int) (a0 : Int), v1 = .int .i64 a3 ∧ v5 = .int .i64 a0 ∧ Aside0 (laws_szNeedS.l0 kq l0 a3 a0 = some r) ∧ Aside0 (kq ≤ b5) ∧ Aside0 (Below w.heap.size w w'))
   case atStart => exact ⟨((wrap64 (a1 - (l0.length : Int)))), (0), zS, zS, H', ⟨Nat.le_refl _⟩, ⟨zB⟩⟩
   case round =>
    clear H'
    try clear p2
    try clear c4
    try clear a2
    try clear p2
    obtain ⟨a3, a0, rfl, rfl, HA, b6, HB⟩ := hrel
    cases gk with
    | zero => exact absurd HA.out (by simp [laws_szNeedS.l0])
    | succ k2 =>
     have H := HA.out; clear HA; simp only [laws_szNeedS.l0] at H; replace H := zI0 H
     rcases H with ⟨b8, H⟩ | ⟨b8, H⟩
     ·replace H := zD0 H; obtain ⟨c5, H⟩ := H; replace H := Option.bind_eq_some_iff.mp H; obtain ⟨a9, b7, H⟩ := H
      try dsimp only at H
      have A7 := zA b7; clear b7; replace H := zI0 H
      rcases H with ⟨b9, H⟩ | ⟨b9, H⟩
      ·obtain rfl := zm H; have a4 : 0 ≤ (a0 : Int) := zD; have a5 : a0 < (l0.length : Int) := zD; obtain ⟨c1, b0, a6, a7⟩ := at_T23 b3.out a0 a4 a5; cases b0; replace a6 := zx HB a6; replace a7 := zx HB a7; replace a4 := eq_true a4; replace a5 := eq_true a5
       go_wp2_with (first | ((with_reducible refine zq 9 ?_); refine zg (some 23) Tryz.func9 #[.agg #[.string ((rd_T23 l0 a0).f0), .string ((rd_T23 l0 a0).f1)], .int .i64 a3] ?_; (with_reducible refine (laws_szNeed.calls ((rd_T23 l0 a0).f0) ((rd_T23 l0 a0).f1) a3 a9 _ A7.out).mono ?_); rintro e w9 ⟨rfl, hb⟩; refine ⟨_, rfl, ?_⟩; replace HB := zA (below_step (zB) hb); (try clear hb)))
       go_ret
       exact ⟨zE, zB⟩
      have H' := zA H; clear H; have a4 : 0 ≤ (a0 : Int) := zD; have a5 : a0 < (l0.length : Int) := zD; obtain ⟨c1, b0, a6, a7⟩ := at_T23 b3.out a0 a4 a5; cases b0; replace a6 := zx HB a6; replace a7 := zx HB a7; replace a4 := eq_true a4; replace a5 := eq_true a5
      go_wp2_with (first | ((with_reducible refine zq 9 ?_); refine zg (some 23) Tryz.func9 #[.agg #[.string ((rd_T23 l0 a0).f0), .string ((rd_T23 l0 a0).f1)], .int .i64 a3] ?_; (with_reducible refine (laws_szNeed.calls ((rd_T23 l0 a0).f0) ((rd_T23 l0 a0).f1) a3 a9 _ A7.out).mono ?_); rintro e c6 ⟨rfl, hb⟩; refine ⟨_, rfl, ?_⟩; replace HB := zA (below_step (zB) hb); (try clear hb)))
      go_roundg k2
      case measure => have := b4.out; have := b6.out; omega
      case rel => exact ⟨(a9), (wrap64 (a0 + 1)), zS, zS, H', ⟨by have := b4.out; have := b6.out; omega⟩, ⟨zB⟩⟩
     obtain rfl := zm H
     go_wp2
     go_ret
     exact ⟨zE, zB⟩
/-! ### laws_szCmd: function 106 -/
def laws_szCmd.f (k : Nat) (a0 : ByteArray) (a3 : List ByteArray) (a1 : Int) : Option (Int) := if (wrap64 (a1 - (a0.size : Int))) < 0 then (some (-1)) else ((laws_szStringS.f k a3 (wrap64 (a1 - (a0.size : Int)))).bind fun a2 => (if a2 < 0 then (some (-1)) else (some a2)))
theorem laws_szCmd.calls (k : Nat) (a3 : ByteArray) (a4 : Option Addr) (a5 : Nat) (a0 : List ByteArray) (a1 r : Int) (w : World) (a7 : Kd.C Kd.string w a4 a0.length a0) (a8 : a0.length ≤ a5) (h : laws_szCmd.f k a3 a0 a1 = some r) :
  Calls Tryz.prog 106 #[.agg #[.string a3, .slice a4 a0.length a5], .int .i64 a1] w fun e w' => e = .returned (.int .i64 r) ∧ Below w.heap.size w w' := by
 have b4 := Tryz.underlying134
 have b0 := zA a7
 have b1 := zA a8
 clear a7 a8
 have HB := zA (Below.refl w.heap.size w)
 unfold laws_szCmd.f at h
 have H := h
 clear h
 go_enter Tryz.func106, Tryz.ntmps106
 go_upto_if 11 with (first | ((with_reducible refine zd 2 ?_); refine ze 2 134 #[.string a3, .slice a4 a0.length a5] ?_; intro b5 hg w4 hbox hb; have b2 := zA (hbox); have b6 := zi HB hg; have b7 := zi HB hg; replace HB := zA (below_step (zB) hb); clear hb hbox hg; obtain ⟨b8, b9, c0, c1⟩ := ze2 b2.out))
 (try simp only [Act.put, zT])
 replace H := zI0 H
 rcases H with ⟨a2, H⟩ | ⟨a2, H⟩
 ·obtain rfl := zm H
  (try simp only [a2])
  go_wp2
  go_ret
  exact ⟨zE, zW HB.out⟩
 replace H := Option.bind_eq_some_iff.mp H
 obtain ⟨b3, a9, H⟩ := H
 try dsimp only at H
 have A6 := zA a9
 clear a9
 (try simp only [a2, a2])
 go_upto_if 17 with (first | ((with_reducible refine zq 48 ?_); refine zg (some 15) Tryz.func48 #[.slice a4 a0.length a5, .int .i64 (wrap64 (a1 - (a3.size : Int)))] ?_; (with_reducible refine (laws_szStringS.calls k _ _ a0 (wrap64 (a1 - (a3.size : Int))) b3 _ ?s1 ?s2 A6.out).mono ?_); (case s1 => exact zC (Kd.C_below b0.out HB.out)); (case s2 => exact b1.out); rintro e w' ⟨rfl, ⟨nd, rfl⟩⟩; refine ⟨_, rfl, ?_⟩))
 (try simp only [Act.put, zT])
 replace H := zI0 H
 rcases H with ⟨a6, H⟩ | ⟨a6, H⟩
 ·obtain rfl := zm H
  (try simp only [a2, a2, a6])
  go_wp2
  go_ret
  exact ⟨zE, zW HB.out⟩
 obtain rfl := zm H
 (try simp only [a2, a2, a6])
 go_wp2
 go_ret
 exact ⟨zE, zW HB.out⟩
/-! ### laws_szCmdS: function 52 -/
mutual
def laws_szCmdS.j0 : Nat → List (S134) → Int → Option (Int)
 | 0, _, _ => none
 | k + 1, x0, x1 => laws_szCmdS.l0 k x0 x1 0
def laws_szCmdS.l0 : Nat → List (S134) → Int → Int → Option (Int)
 | 0, _, _, _ => none
 | k + 1, x0, x1, x5 => if x5 < (x0.length : Int) then (if 0 ≤ x5 then ((laws_szCmd.f k ((rd_T134 x0 x5).f0) ((rd_T134 x0 x5).f1) x1).bind fun a0 => (if a0 < 0 then (some (-1)) else (laws_szCmdS.l0 k x0 a0 (wrap64 (x5 + 1))))) else (none)) else (some x1)
end
def laws_szCmdS.f (k : Nat) (l0 : List (S134)) (a1 : Int) : Option (Int) := if (wrap64 (a1 - (l0.length : Int))) < 0 then (some (-1)) else (laws_szCmdS.j0 k l0 (wrap64 (a1 - (l0.length : Int))))
theorem laws_szCmdS.calls (k : Nat) (A0 : Option Addr) (c0 : Nat) (l0 : List (S134)) (a1 r : Int) (w : World) (b7 : Kd.C k134 w A0 l0.length l0) (b8 : l0.length ≤ c0) (h : laws_szCmdS.f k l0 a1 = some r) :
  Calls Tryz.prog 52 #[.slice A0 l0.length c0, .int .i64 a1] w fun e w' => e = .returned (.int .i64 r) ∧ Below w.heap.size w w' := by
 have c9 := Tryz.underlying134
 have b9 := zA b7
 have d0 := zA b8
 clear b7 b8
 have HB := zA (Below.refl w.heap.size w)
 unfold laws_szCmdS.f at h
 have H := h
 clear h
 have b0 := zA H
 clear H
 go_enter Tryz.func52, Tryz.ntmps52
 go_upto_if 11 with (fail)
 go_cut [] (fun wc => ∃ (kq : Nat), Aside0 (laws_szCmdS.j0 kq l0 (wrap64 (a1 - (l0.length : Int))) = some r) ∧ Aside0 (kq ≤ k) ∧ Aside0 (Below w.heap.size w wc))
 case first =>
  have H := b0.out; clear b0; replace H := zI0 H
  rcases H with ⟨a2, H⟩ | ⟨a2, H⟩
  ·(first | rw [a2] | (simp only [i64_w, i32_w]; rw [a2]) | skip)
   obtain rfl := zm H
   go_wp2
   go_ret
   exact ⟨zE, zB⟩
  (first | rw [a2] | (simp only [i64_w, i32_w]; rw [a2]) | skip)
  have H' := zA H; clear H
  go_wp2
  go_meet
  case rel => exact ⟨_, (by first | exact H' | (subst_vars; exact H')), ⟨by first | omega | exact Nat.le_refl _⟩, ⟨zB⟩⟩
 case rest =>
  clear b0
  try clear p2
  try clear c4
  try clear a2
  obtain ⟨kq, HA, c1, HB⟩ := hcut
  cases kq with
  | zero => exact absurd HA.out (by simp [laws_szCmdS.j0])
  | succ c2 =>
   have H := HA.out; clear HA; simp only [laws_szCmdS.j0] at H; have H' := zA H; clear H
   go_wp2
   go_loopg [1, 5] c2 (fun kq v1 v5 w' => ∃ (a3 : Int) (a0 : Int), v1 = .int .i64 a3 ∧ v5 = .int .i64 a0 ∧ Aside0 (laws_szCmdS.l0 kq l0 a3 a0 = some r) ∧ Aside0 (kq ≤ c2) ∧ Aside0 (Below w.heap.size w w'))
   case atStart => exact ⟨((wrap64 (a1 - (l0.length : Int)))), (0), zS, zS, H', ⟨Nat.le_refl _⟩, ⟨zB⟩⟩
   case round =>
    clear H'
    try clear p2
    try clear c4
    try clear a2
    try clear p2
    obtain ⟨a3, a0, rfl, rfl, HA, c3, HB⟩ := hrel
    cases gk with
    | zero => exact absurd HA.out (by simp [laws_szCmdS.l0])
    | succ k2 =>
     have H := HA.out; clear HA; simp only [laws_szCmdS.l0] at H; replace H := zI0 H
     rcases H with ⟨c6, H⟩ | ⟨c6, H⟩
     ·replace H := zD0 H; obtain ⟨d1, H⟩ := H; replace H := Option.bind_eq_some_iff.mp H; obtain ⟨b1, c5, H⟩ := H
      try dsimp only at H
      have A7 := zA c5; clear c5; replace H := zI0 H
      rcases H with ⟨c7, H⟩ | ⟨c7, H⟩
      ·obtain rfl := zm H; have a4 : 0 ≤ (a0 : Int) := zD; have a5 : a0 < (l0.length : Int) := zD; obtain ⟨c8, b2, b3, b4, a6, a7, a8, a9⟩ := at_T134 b9.out a0 a4 a5; cases b4; replace a6 := zx HB a6; replace a7 := zx HB a7; have b5 := zA a9; have b6 := zA a8; clear a9 a8; replace a4 := eq_true a4; replace a5 := eq_true a5
       go_wp2_with (first | ((with_reducible refine zq 106 ?_); refine zg (some 23) Tryz.func106 #[.agg #[.string ((rd_T134 l0 a0).f0), .slice b2 ((rd_T134 l0 a0).f1).length b3], .int .i64 a3] ?_; (with_reducible refine (laws_szCmd.calls k2 ((rd_T134 l0 a0).f0) _ _ ((rd_T134 l0 a0).f1) a3 b1 _ ?s1 ?s2 A7.out).mono ?_); (case s1 => exact zC (Kd.C_below b5.out HB.out)); (case s2 => exact b6.out); rintro e w9 ⟨rfl, hb⟩; refine ⟨_, rfl, ?_⟩; replace HB := zA (below_step (zB) hb); (try clear hb)))
       go_ret
       exact ⟨zE, zB⟩
      have H' := zA H; clear H; have a4 : 0 ≤ (a0 : Int) := zD; have a5 : a0 < (l0.length : Int) := zD; obtain ⟨c8, b2, b3, b4, a6, a7, a8, a9⟩ := at_T134 b9.out a0 a4 a5; cases b4; replace a6 := zx HB a6; replace a7 := zx HB a7; have b5 := zA a9; have b6 := zA a8; clear a9 a8; replace a4 := eq_true a4; replace a5 := eq_true a5
      go_wp2_with (first | ((with_reducible refine zq 106 ?_); refine zg (some 23) Tryz.func106 #[.agg #[.string ((rd_T134 l0 a0).f0), .slice b2 ((rd_T134 l0 a0).f1).length b3], .int .i64 a3] ?_; (with_reducible refine (laws_szCmd.calls k2 ((rd_T134 l0 a0).f0) _ _ ((rd_T134 l0 a0).f1) a3 b1 _ ?s1 ?s2 A7.out).mono ?_); (case s1 => exact zC (Kd.C_below b5.out HB.out)); (case s2 => exact b6.out); rintro e d2 ⟨rfl, hb⟩; refine ⟨_, rfl, ?_⟩; replace HB := zA (below_step (zB) hb); (try clear hb)))
      go_roundg k2
      case measure => have := c1.out; have := c3.out; omega
      case rel => exact ⟨(b1), (wrap64 (a0 + 1)), zS, zS, H', ⟨by have := c1.out; have := c3.out; omega⟩, ⟨zB⟩⟩
     obtain rfl := zm H
     go_wp2
     go_ret
     exact ⟨zE, zB⟩
/-! ### laws_szPack: function 16 -/
mutual
def laws_szPack.j0 : Nat → Int → ByteArray → List ByteArray → List (S23) → List (S134) → Option (Int)
 | 0, _, _, _, _, _ => none
 | k + 1, x1, a3, a0, a1, a2 => (laws_szStringS.f k a0 x1).bind fun a4 => (if a4 < 0 then (some (-1)) else (laws_szPack.j1 k a4 a3 a0 a1 a2))
def laws_szPack.j1 : Nat → Int → ByteArray → List ByteArray → List (S23) → List (S134) → Option (Int)
 | 0, _, _, _, _, _ => none
 | k + 1, x1, a3, a0, a1, a2 => (laws_szNeedS.f k a1 x1).bind fun a5 => (if a5 < 0 then (some (-1)) else ((laws_szCmdS.f k a2 a5).bind fun a6 => (if a6 < 0 then (some (-1)) else (some a6))))
end
def laws_szPack.f (k : Nat) (a0 : ByteArray) (a2 : List ByteArray) (a3 : List (S23)) (a4 : List (S134)) (a1 : Int) : Option (Int) := if (wrap64 (a1 - (a0.size : Int))) < 0 then (some (-1)) else (laws_szPack.j0 k (wrap64 (a1 - (a0.size : Int))) a0 a2 a3 a4)
theorem laws_szPack.calls (k : Nat) (a5 : ByteArray) (b3 : Option Addr) (b4 : Nat) (a4 : List ByteArray) (a6 : Option Addr) (a7 : Nat) (a2 : List (S23)) (a9 : Option Addr) (b0 : Nat) (a3 : List (S134)) (a1 r : Int) (w : World) (c3 : Kd.C Kd.string w b3 a4.length a4) (c5 : a4.length ≤ b4) (c7 : Kd.C k23 w a6 a2.length a2) (c8 : a2.length ≤ a7) (c9 : Kd.C k134 w a9 a3.length a3) (d0 : a3.length ≤ b0) (h : laws_szPack.f k a5 a4 a2 a3 a1 = some r) :
  Calls Tryz.prog 16 #[.agg #[.string a5, .slice b3 a4.length b4, .slice a6 a2.length a7, .slice a9 a3.length b0], .int .i64 a1] w fun e w' => e = .returned (.int .i64 r) ∧ Below w.heap.size w w' := by
 have g1 := Tryz.underlying39
 have e8 := zA c3
 have e9 := zA c5
 clear c3 c5
 have b7 := zA c7
 have b8 := zA c8
 clear c7 c8
 have d1 := zA c9
 have d2 := zA d0
 clear c9 d0
 have HB := zA (Below.refl w.heap.size w)
 unfold laws_szPack.f at h
 have H := h
 clear h
 have b9 := zA H
 clear H
 go_enter Tryz.func16, Tryz.ntmps16
 go_upto_if 11 with (first | ((with_reducible refine zd 2 ?_); refine ze 2 39 #[.string a5, .slice b3 a4.length b4, .slice a6 a2.length a7, .slice a9 a3.length b0] ?_; intro d3 hg w4 hbox hb; have a0 := zA (hbox); have g2 := zi HB hg; have g3 := zi HB hg; replace HB := zA (below_step (zB) hb); clear hb hbox hg; obtain ⟨d4, d5, d6, d7, d8, d9, e0, e1⟩ := ze4 a0.out))
 (try simp only [Act.put, zT])
 go_cut [] (fun wc => ∃ (kq : Nat), Aside0 (laws_szPack.j0 kq (wrap64 (a1 - (a5.size : Int))) a5 a4 a2 a3 = some r) ∧ Aside0 (kq ≤ k) ∧ Aside0 (wc.heap[d3]? = some (.cells #[.string a5, (.slice b3 a4.length b4), (.slice a6 a2.length a7), (.slice a9 a3.length b0)] 39 (0, 0))) ∧ Aside0 (Below w.heap.size w wc))
 case first =>
  have H := b9.out; clear b9; replace H := zI0 H
  rcases H with ⟨b1, H⟩ | ⟨b1, H⟩
  ·(first | rw [b1] | (simp only [i64_w, i32_w]; rw [b1]) | skip)
   obtain rfl := zm H
   go_wp2
   go_ret
   exact ⟨zE, zW HB.out⟩
  (first | rw [b1] | (simp only [i64_w, i32_w]; rw [b1]) | skip)
  have H' := zA H; clear H
  go_wp2
  go_meet
  case rel => exact ⟨_, (by first | exact H' | (subst_vars; exact H')), ⟨by first | omega | exact Nat.le_refl _⟩, ⟨zK a0.out⟩, ⟨zW HB.out⟩⟩
 case rest =>
  clear b9
  try clear c1
  try clear p2
  try clear c6
  try clear b1
  try clear p6
  try clear d4 d5 d6 d7 d8 d9 e0 e1
  obtain ⟨kq, HA, f0, a0, HB⟩ := hcut
  cases kq with
  | zero => exact absurd HA.out (by simp [laws_szPack.j0])
  | succ e2 =>
   have H := HA.out; clear HA; simp only [laws_szPack.j0] at H; replace H := Option.bind_eq_some_iff.mp H; obtain ⟨a8, e3, H⟩ := H
   try dsimp only at H
   have A7 := zA e3; clear e3; have c0 := zA H; clear H; obtain ⟨f1, f2, f3, f4, f5, f6, f7, f8⟩ := ze4 a0.out
   go_upto_if 17 with (first | ((with_reducible refine zq 48 ?_); refine zg (some 15) Tryz.func48 #[.slice b3 a4.length b4, .int .i64 (wrap64 (a1 - (a5.size : Int)))] ?_; (with_reducible refine (laws_szStringS.calls e2 _ _ a4 (wrap64 (a1 - (a5.size : Int))) a8 _ ?s1 ?s2 A7.out).mono ?_); (case s1 => exact zC (Kd.C_below e8.out HB.out)); (case s2 => exact e9.out); rintro e w' ⟨rfl, ⟨nd, rfl⟩⟩; refine ⟨_, rfl, ?_⟩))
   (try simp only [Act.put, zT])
   go_cut [] (fun wc => ∃ (kq : Nat), Aside0 (laws_szPack.j1 kq a8 a5 a4 a2 a3 = some r) ∧ Aside0 (kq ≤ e2) ∧ Aside0 (wc.heap[d3]? = some (.cells #[.string a5, (.slice b3 a4.length b4), (.slice a6 a2.length a7), (.slice a9 a3.length b0)] 39 (0, 0))) ∧ Aside0 (Below w.heap.size w wc))
   case first =>
    have H := c0.out; clear c0; replace H := zI0 H
    rcases H with ⟨b5, H⟩ | ⟨b5, H⟩
    ·(first | rw [b5] | (simp only [i64_w, i32_w]; rw [b5]) | skip)
     obtain rfl := zm H
     go_wp2
     go_ret
     exact ⟨zE, zW HB.out⟩
    (first | rw [b5] | (simp only [i64_w, i32_w]; rw [b5]) | skip)
    have H' := zA H; clear H
    go_wp2
    go_meet
    case rel => exact ⟨_, (by first | exact H' | (subst_vars; exact H')), ⟨by have := f0.out; first | omega | exact Nat.le_refl _⟩, ⟨zK a0.out⟩, ⟨zW HB.out⟩⟩
   case rest =>
    clear c0
    try clear c1
    try clear p2
    try clear c4
    try clear c6
    try clear b1
    try clear p6
    try clear c10
    try clear b5
    try clear d4 d5 d6 d7 d8 d9 e0 e1
    try clear f1 f2 f3 f4 f5 f6 f7 f8
    try clear p2
    try clear p6
    obtain ⟨kq, HA, g4, a0, HB⟩ := hcut
    cases kq with
    | zero => exact absurd HA.out (by simp [laws_szPack.j1])
    | succ b6 =>
     have H := HA.out; clear HA; simp only [laws_szPack.j1] at H; replace H := Option.bind_eq_some_iff.mp H; obtain ⟨b2, e4, H⟩ := H
     try dsimp only at H
     have c2 := zA e4; clear e4; replace H := zI0 H
     rcases H with ⟨f9, H⟩ | ⟨f9, H⟩
     ·obtain rfl := zm H; obtain ⟨g5, g6, g7, g8, g9, h0, h1, h2⟩ := ze4 a0.out
      go_wp2_with (first | ((with_reducible refine zq 51 ?_); refine zg (some 21) Tryz.func51 #[.slice a6 a2.length a7, .int .i64 a8] ?_; (with_reducible refine (laws_szNeedS.calls b6 _ _ a2 a8 b2 _ ?s1 ?s2 c2.out).mono ?_); (case s1 => exact zC (Kd.C_below b7.out HB.out)); (case s2 => exact b8.out); rintro e h3 ⟨rfl, hb⟩; refine ⟨_, rfl, ?_⟩; replace a0 := zb a0 hb; replace HB := zh HB hb; (try clear hb)))
      go_ret
      exact ⟨zE, zW HB.out⟩
     replace H := Option.bind_eq_some_iff.mp H; obtain ⟨e5, e6, H⟩ := H
     try dsimp only at H
     have e7 := zA e6; clear e6; replace H := zI0 H
     rcases H with ⟨g0, H⟩ | ⟨g0, H⟩
     ·obtain rfl := zm H; obtain ⟨h4, h5, h6, h7, h8, h9, i0, i1⟩ := ze4 a0.out
      go_wp2_with (first | ((with_reducible refine zq 51 ?_); refine zg (some 21) Tryz.func51 #[.slice a6 a2.length a7, .int .i64 a8] ?_; (with_reducible refine (laws_szNeedS.calls b6 _ _ a2 a8 b2 _ ?s1 ?s2 c2.out).mono ?_); (case s1 => exact zC (Kd.C_below b7.out HB.out)); (case s2 => exact b8.out); rintro e i2 ⟨rfl, hb⟩; refine ⟨_, rfl, ?_⟩; replace a0 := zb a0 hb; replace HB := zh HB hb; (try clear hb); obtain ⟨i3, i4, i5, i6, i7, i8, i9, j2⟩ := ze4 a0.out) | ((with_reducible refine zq 52 ?_); refine zg (some 27) Tryz.func52 #[.slice a9 a3.length b0, .int .i64 b2] ?_; (with_reducible refine (laws_szCmdS.calls b6 _ _ a3 b2 e5 _ ?s1 ?s2 e7.out).mono ?_); (case s1 => exact zC (Kd.C_below d1.out HB.out)); (case s2 => exact d2.out); rintro e j3 ⟨rfl, hb⟩; refine ⟨_, rfl, ?_⟩; replace a0 := zb a0 hb; replace HB := zh HB hb; (try clear hb)))
      go_ret
      exact ⟨zE, zW HB.out⟩
     obtain rfl := zm H; obtain ⟨j4, j5, j6, j7, j8, j9, k0, k1⟩ := ze4 a0.out
     go_wp2_with (first | ((with_reducible refine zq 51 ?_); refine zg (some 21) Tryz.func51 #[.slice a6 a2.length a7, .int .i64 a8] ?_; (with_reducible refine (laws_szNeedS.calls b6 _ _ a2 a8 b2 _ ?s1 ?s2 c2.out).mono ?_); (case s1 => exact zC (Kd.C_below b7.out HB.out)); (case s2 => exact b8.out); rintro e k2 ⟨rfl, hb⟩; refine ⟨_, rfl, ?_⟩; replace a0 := zb a0 hb; replace HB := zh HB hb; (try clear hb); obtain ⟨k3, k4, k5, k6, k7, k8, k9, l0⟩ := ze4 a0.out) | ((with_reducible refine zq 52 ?_); refine zg (some 27) Tryz.func52 #[.slice a9 a3.length b0, .int .i64 b2] ?_; (with_reducible refine (laws_szCmdS.calls b6 _ _ a3 b2 e5 _ ?s1 ?s2 e7.out).mono ?_); (case s1 => exact zC (Kd.C_below d1.out HB.out)); (case s2 => exact d2.out); rintro e l1 ⟨rfl, hb⟩; refine ⟨_, rfl, ?_⟩; replace a0 := zb a0 hb; replace HB := zh HB hb; (try clear hb)))
     go_ret
     exact ⟨zE, zW HB.out⟩
/-! ### laws_szPackS: function 26 -/
mutual
def laws_szPackS.j0 : Nat → List (S39) → Int → Option (Int)
 | 0, _, _ => none
 | k + 1, x0, x1 => laws_szPackS.l0 k x0 x1 0
def laws_szPackS.l0 : Nat → List (S39) → Int → Int → Option (Int)
 | 0, _, _, _ => none
 | k + 1, x0, x1, x5 => if x5 < (x0.length : Int) then (if 0 ≤ x5 then ((laws_szPack.f k ((rd_T39 x0 x5).f0) ((rd_T39 x0 x5).f1) ((rd_T39 x0 x5).f2) ((rd_T39 x0 x5).f3) x1).bind fun a0 => (if a0 < 0 then (some (-1)) else (laws_szPackS.l0 k x0 a0 (wrap64 (x5 + 1))))) else (none)) else (some x1)
end
def laws_szPackS.f (k : Nat) (l0 : List (S39)) (a1 : Int) : Option (Int) := if (wrap64 (a1 - (l0.length : Int))) < 0 then (some (-1)) else (laws_szPackS.j0 k l0 (wrap64 (a1 - (l0.length : Int))))
theorem laws_szPackS.calls (k : Nat) (A0 : Option Addr) (c0 : Nat) (l0 : List (S39)) (a1 r : Int) (w : World) (d4 : Kd.C k39 w A0 l0.length l0) (d5 : l0.length ≤ c0) (h : laws_szPackS.f k l0 a1 = some r) :
  Calls Tryz.prog 26 #[.slice A0 l0.length c0, .int .i64 a1] w fun e w' => e = .returned (.int .i64 r) ∧ Below w.heap.size w w' := by
 have e4 := Tryz.underlying39
 have d6 := zA d4
 have e5 := zA d5
 clear d4 d5
 have HB := zA (Below.refl w.heap.size w)
 unfold laws_szPackS.f at h
 have H := h
 clear h
 have b6 := zA H
 clear H
 go_enter Tryz.func26, Tryz.ntmps26
 go_upto_if 11 with (fail)
 go_cut [] (fun wc => ∃ (kq : Nat), Aside0 (laws_szPackS.j0 kq l0 (wrap64 (a1 - (l0.length : Int))) = some r) ∧ Aside0 (kq ≤ k) ∧ Aside0 (Below w.heap.size w wc))
 case first =>
  have H := b6.out; clear b6; replace H := zI0 H
  rcases H with ⟨a2, H⟩ | ⟨a2, H⟩
  ·(first | rw [a2] | (simp only [i64_w, i32_w]; rw [a2]) | skip)
   obtain rfl := zm H
   go_wp2
   go_ret
   exact ⟨zE, zB⟩
  (first | rw [a2] | (simp only [i64_w, i32_w]; rw [a2]) | skip)
  have H' := zA H; clear H
  go_wp2
  go_meet
  case rel => exact ⟨_, (by first | exact H' | (subst_vars; exact H')), ⟨by first | omega | exact Nat.le_refl _⟩, ⟨zB⟩⟩
 case rest =>
  clear b6
  try clear c2
  try clear p2
  try clear c4
  try clear a2
  obtain ⟨kq, HA, d7, HB⟩ := hcut
  cases kq with
  | zero => exact absurd HA.out (by simp [laws_szPackS.j0])
  | succ d8 =>
   have H := HA.out; clear HA; simp only [laws_szPackS.j0] at H; have H' := zA H; clear H
   go_wp2
   go_loopg [1, 5] d8 (fun kq v1 v5 w' => ∃ (a3 : Int) (a0 : Int), v1 = .int .i64 a3 ∧ v5 = .int .i64 a0 ∧ Aside0 (laws_szPackS.l0 kq l0 a3 a0 = some r) ∧ Aside0 (kq ≤ d8) ∧ Aside0 (Below w.heap.size w w'))
   case atStart => exact ⟨((wrap64 (a1 - (l0.length : Int)))), (0), zS, zS, H', ⟨Nat.le_refl _⟩, ⟨zB⟩⟩
   case round =>
    clear H'
    try clear c2
    try clear p2
    try clear c4
    try clear a2
    try clear p2
    obtain ⟨a3, a0, rfl, rfl, HA, d9, HB⟩ := hrel
    cases gk with
    | zero => exact absurd HA.out (by simp [laws_szPackS.l0])
    | succ k2 =>
     have H := HA.out; clear HA; simp only [laws_szPackS.l0] at H; replace H := zI0 H
     rcases H with ⟨e1, H⟩ | ⟨e1, H⟩
     ·replace H := zD0 H; obtain ⟨e6, H⟩ := H; replace H := Option.bind_eq_some_iff.mp H; obtain ⟨b7, e0, H⟩ := H
      try dsimp only at H
      have A7 := zA e0; clear e0; replace H := zI0 H
      rcases H with ⟨e2, H⟩ | ⟨e2, H⟩
      ·obtain rfl := zm H; have a4 : 0 ≤ (a0 : Int) := zD; have a5 : a0 < (l0.length : Int) := zD; obtain ⟨e3, b8, b9, c1, c3, c5, c6, c7, a6, a7, a8, a9, b0, b1, b2, b3, b4, b5⟩ := at_T39 d6.out a0 a4 a5; cases c7; replace a6 := zx HB a6; replace a7 := zx HB a7; replace a8 := zx HB a8; replace a9 := zx HB a9; have c8 := zA b1; have c9 := zA b0; clear b1 b0; have d0 := zA b3; have d1 := zA b2; clear b3 b2; have d2 := zA b5; have d3 := zA b4; clear b5 b4; replace a4 := eq_true a4; replace a5 := eq_true a5
       go_wp2_with (first | ((with_reducible refine zq 16 ?_); refine zg (some 23) Tryz.func16 #[.agg #[.string ((rd_T39 l0 a0).f0), .slice b8 ((rd_T39 l0 a0).f1).length b9, .slice c1 ((rd_T39 l0 a0).f2).length c3, .slice c5 ((rd_T39 l0 a0).f3).length c6], .int .i64 a3] ?_; (with_reducible refine (laws_szPack.calls k2 ((rd_T39 l0 a0).f0) _ _ ((rd_T39 l0 a0).f1) _ _ ((rd_T39 l0 a0).f2) _ _ ((rd_T39 l0 a0).f3) a3 b7 _ ?s1 ?s2 ?s3 ?s4 ?s5 ?s6 A7.out).mono ?_); (case s1 => exact zC (Kd.C_below c8.out HB.out)); (case s2 => exact c9.out); (case s3 => exact zC (Kd.C_below d0.out HB.out)); (case s4 => exact d1.out); (case s5 => exact zC (Kd.C_below d2.out HB.out)); (case s6 => exact d3.out); rintro e w9 ⟨rfl, hb⟩; refine ⟨_, rfl, ?_⟩; replace HB := zA (below_step (zB) hb); (try clear hb)))
       go_ret
       exact ⟨zE, zB⟩
      have H' := zA H; clear H; have a4 : 0 ≤ (a0 : Int) := zD; have a5 : a0 < (l0.length : Int) := zD; obtain ⟨e3, b8, b9, c1, c3, c5, c6, c7, a6, a7, a8, a9, b0, b1, b2, b3, b4, b5⟩ := at_T39 d6.out a0 a4 a5; cases c7; replace a6 := zx HB a6; replace a7 := zx HB a7; replace a8 := zx HB a8; replace a9 := zx HB a9; have c8 := zA b1; have c9 := zA b0; clear b1 b0; have d0 := zA b3; have d1 := zA b2; clear b3 b2; have d2 := zA b5; have d3 := zA b4; clear b5 b4; replace a4 := eq_true a4; replace a5 := eq_true a5
      go_wp2_with (first | ((with_reducible refine zq 16 ?_); refine zg (some 23) Tryz.func16 #[.agg #[.string ((rd_T39 l0 a0).f0), .slice b8 ((rd_T39 l0 a0).f1).length b9, .slice c1 ((rd_T39 l0 a0).f2).length c3, .slice c5 ((rd_T39 l0 a0).f3).length c6], .int .i64 a3] ?_; (with_reducible refine (laws_szPack.calls k2 ((rd_T39 l0 a0).f0) _ _ ((rd_T39 l0 a0).f1) _ _ ((rd_T39 l0 a0).f2) _ _ ((rd_T39 l0 a0).f3) a3 b7 _ ?s1 ?s2 ?s3 ?s4 ?s5 ?s6 A7.out).mono ?_); (case s1 => exact zC (Kd.C_below c8.out HB.out)); (case s2 => exact c9.out); (case s3 => exact zC (Kd.C_below d0.out HB.out)); (case s4 => exact d1.out); (case s5 => exact zC (Kd.C_below d2.out HB.out)); (case s6 => exact d3.out); rintro e e7 ⟨rfl, hb⟩; refine ⟨_, rfl, ?_⟩; replace HB := zA (below_step (zB) hb); (try clear hb)))
      go_roundg k2
      case measure => have := d7.out; have := d9.out; omega
      case rel => exact ⟨(b7), (wrap64 (a0 + 1)), zS, zS, H', ⟨by have := d7.out; have := d9.out; omega⟩, ⟨zB⟩⟩
     obtain rfl := zm H
     go_wp2
     go_ret
     exact ⟨zE, zB⟩
/-! ### spec_l1In: function 104 -/
def spec_l1In.f (a0 a1 a2 : Int) : Option (Bool) := if a0 ≥ a1 then (some (decide (a0 ≤ a2))) else (some false)
theorem spec_l1In.calls (a0 a1 a2 : Int) (r : Bool) (w : World) (h : spec_l1In.f a0 a1 a2 = some r) :
  Calls Tryz.prog 104 #[.int .i64 a0, .int .i64 a1, .int .i64 a2] w fun e w' => e = .returned (.bool r) ∧ Drawn0 w w' := by
 unfold spec_l1In.f at h
 have H := h
 clear h
 replace H := zI1 H
 rcases H with ⟨c4, H⟩ | ⟨c4, H⟩
 ·have a3 : decide (a1 ≤ a0) = true := decide_eq_true c4; clear c4; obtain rfl := zm H
  go_enter Tryz.func104, Tryz.ntmps104
  go_wp2
  go_ret
  exact ⟨by first | rfl | (simp; done) | (simp [*]; done) | (simp; rw [Bool.eq_iff_iff]; simp; done), by repeat (first | exact Drawn0.refl _ | apply Drawn0.step)⟩
 have a3 : decide (a1 ≤ a0) = false := decide_eq_false c4
 clear c4
 obtain rfl := zm H
 go_enter Tryz.func104, Tryz.ntmps104
 go_wp2
 go_ret
 exact ⟨by first | rfl | (simp; done) | (simp [*]; done) | (simp; rw [Bool.eq_iff_iff]; simp; done), by repeat (first | exact Drawn0.refl _ | apply Drawn0.step)⟩
/-! ### spec_l1Small: function 107 -/
def spec_l1Small.f (a0 : Int) : Option (Bool) := (spec_l1In.f (wrap64 (a0)) 97 122).bind fun a1 => (some a1)
theorem spec_l1Small.calls (a0 : Int) (r : Bool) (w : World) (h : spec_l1Small.f a0 = some r) :
  Calls Tryz.prog 107 #[.int .u8 a0] w fun e w' => e = .returned (.bool r) ∧ Drawn0 w w' := by
 unfold spec_l1Small.f at h
 have H := h
 clear h
 replace H := Option.bind_eq_some_iff.mp H
 obtain ⟨a2, a1, H⟩ := H
 try dsimp only at H
 have A2 := zA a1
 clear a1
 obtain rfl := zm H
 go_enter Tryz.func107, Tryz.ntmps107
 go_wp2_with (first | ((with_reducible refine zq 104 ?_); refine zg (some 5) Tryz.func104 #[.int .i64 (wrap64 (a0)), .int .i64 97, .int .i64 122] ?_; (with_reducible refine (spec_l1In.calls (wrap64 (a0)) 97 122 a2 _ A2.out).mono ?_); rintro e w' ⟨rfl, ⟨nd, rfl⟩⟩; refine ⟨_, rfl, ?_⟩))
 go_ret
 exact ⟨by first | rfl | (simp; done) | (simp [*]; done) | (simp; rw [Bool.eq_iff_iff]; simp; done), by repeat (first | exact Drawn0.refl _ | apply Drawn0.step)⟩
/-! ### spec_l1Digit: function 108 -/
def spec_l1Digit.f (a0 : Int) : Option (Bool) := (spec_l1In.f (wrap64 (a0)) 48 57).bind fun a1 => (some a1)
theorem spec_l1Digit.calls (a0 : Int) (r : Bool) (w : World) (h : spec_l1Digit.f a0 = some r) :
  Calls Tryz.prog 108 #[.int .u8 a0] w fun e w' => e = .returned (.bool r) ∧ Drawn0 w w' := by
 unfold spec_l1Digit.f at h
 have H := h
 clear h
 replace H := Option.bind_eq_some_iff.mp H
 obtain ⟨a2, a1, H⟩ := H
 try dsimp only at H
 have A2 := zA a1
 clear a1
 obtain rfl := zm H
 go_enter Tryz.func108, Tryz.ntmps108
 go_wp2_with (first | ((with_reducible refine zq 104 ?_); refine zg (some 5) Tryz.func104 #[.int .i64 (wrap64 (a0)), .int .i64 48, .int .i64 57] ?_; (with_reducible refine (spec_l1In.calls (wrap64 (a0)) 48 57 a2 _ A2.out).mono ?_); rintro e w' ⟨rfl, ⟨nd, rfl⟩⟩; refine ⟨_, rfl, ?_⟩))
 go_ret
 exact ⟨by first | rfl | (simp; done) | (simp [*]; done) | (simp; rw [Bool.eq_iff_iff]; simp; done), by repeat (first | exact Drawn0.refl _ | apply Drawn0.step)⟩
/-! ### spec_NameOk: function 53 -/
mutual
def spec_NameOk.l0 : Nat → ByteArray → Int → Option (Bool)
 | 0, _, _ => none
 | k + 1, x0, x3 => if x3 < (x0.size : Int) then (spec_NameOk.j1 k x0 x3) else ((spec_l1In.f (x0.size : Int) 1 10).bind fun a0 => (some a0))
def spec_NameOk.j1 : Nat → ByteArray → Int → Option (Bool)
 | 0, _, _ => none
 | k + 1, x0, x3 => if 0 ≤ x3 then (if x3 < (x0.size : Int) then ((spec_l1Small.f (bt x0 x3)).bind fun a1 => (if a1 = true then (spec_NameOk.l0 k x0 (wrap64 (x3 + 1))) else (if x3 = 0 then (some false) else ((spec_l1Digit.f (bt x0 x3)).bind fun a2 => (if a2 = true then (spec_NameOk.l0 k x0 (wrap64 (x3 + 1))) else (if (bt x0 x3) = 45 then (spec_NameOk.l0 k x0 (wrap64 (x3 + 1))) else (some false))))))) else (none)) else (none)
end
def spec_NameOk.f (k : Nat) (a0 : ByteArray) : Option (Bool) := spec_NameOk.l0 k a0 0
theorem spec_NameOk.calls (k : Nat) (a0 : ByteArray) (r : Bool) (w : World) (h : spec_NameOk.f k a0 = some r) :
  Calls Tryz.prog 53 #[.string a0] w fun e w' => e = .returned (.bool r) ∧ Drawn0 w w' := by
 unfold spec_NameOk.f at h
 have H := h
 clear h
 have H' := zA H
 clear H
 go_enter Tryz.func53, Tryz.ntmps53
 go_wp2
 go_loopg [3] k (fun kq v3 w' => ∃ (a1 : Int), v3 = .int .i64 a1 ∧ Aside0 (spec_NameOk.l0 kq a0 a1 = some r) ∧ Aside0 (kq ≤ k) ∧ Drawn0 w w')
 case atStart => exact ⟨(0), zS, H', ⟨Nat.le_refl _⟩, by repeat (first | exact Drawn0.refl _ | apply Drawn0.step)⟩
 case round =>
  clear H'; obtain ⟨a1, rfl, HA, a4, ⟨m1, rfl⟩⟩ := hrel
  cases gk with
  | zero => exact absurd HA.out (by simp [spec_NameOk.l0])
  | succ k1 =>
   have H := HA.out; clear HA; simp only [spec_NameOk.l0] at H; have b2 := zA H; clear H
   go_upto_if 7 with (fail)
   go_cut [] (fun wc => ∃ (kq : Nat), Aside0 (spec_NameOk.j1 kq a0 a1 = some r) ∧ Aside0 (kq ≤ k1) ∧ Drawn0 w wc)
   case first =>
    have H := b2.out; clear b2; replace H := zI0 H
    rcases H with ⟨a5, H⟩ | ⟨a5, H⟩
    ·(first | rw [a5] | (simp only [i64_w, i32_w]; rw [a5]) | skip)
     have H' := zA H; clear H
     go_wp2
     go_meet
     case rel => exact ⟨_, (by first | exact H' | (subst_vars; exact H')), ⟨by have := a4.out; first | omega | exact Nat.le_refl _⟩, by repeat (first | exact Drawn0.refl _ | apply Drawn0.step)⟩
    (first | rw [a5] | (simp only [i64_w, i32_w]; rw [a5]) | skip)
    replace H := Option.bind_eq_some_iff.mp H; obtain ⟨b9, b5, H⟩ := H
    try dsimp only at H
    have A4 := zA b5; clear b5; obtain rfl := zm H
    go_wp2_with (first | ((with_reducible refine zq 104 ?_); refine zg (some 34) Tryz.func104 #[.int .i64 (a0.size : Int), .int .i64 1, .int .i64 10] ?_; (with_reducible refine (spec_l1In.calls (a0.size : Int) 1 10 b9 _ A4.out).mono ?_); rintro e w' ⟨rfl, ⟨nd, rfl⟩⟩; refine ⟨_, rfl, ?_⟩))
    go_ret
    exact ⟨by first | rfl | (simp; done) | (simp [*]; done) | (simp; rw [Bool.eq_iff_iff]; simp; done), by repeat (first | exact Drawn0.refl _ | apply Drawn0.step)⟩
   case rest =>
    clear b2
    try clear c1
    try clear p2
    try clear c3
    try clear a5
    obtain ⟨kq, HA, a6, ⟨c7, rfl⟩⟩ := hcut
    cases kq with
    | zero => exact absurd HA.out (by simp [spec_NameOk.j1])
    | succ b3 =>
     have H := HA.out; clear HA; simp only [spec_NameOk.j1] at H; replace H := zD0 H; obtain ⟨c8, H⟩ := H; replace H := zD0 H; obtain ⟨c9, H⟩ := H; replace H := Option.bind_eq_some_iff.mp H; obtain ⟨d0, b6, H⟩ := H
     try dsimp only at H
     have A8 := zA b6; clear b6; replace H := zB0 H
     rcases H with ⟨rfl, H⟩ | ⟨rfl, H⟩
     ·have H' := zA H; clear H; have p7 : 0 ≤ (a1 : Int) := zD; have q7 : a1 < (a0.size : Int) := zD; have b1 := bt_at a0 a1; replace p7 := eq_true p7; replace q7 := eq_true q7
      go_wp2_with (first | ((with_reducible refine zq 107 ?_); refine zg (some 13) Tryz.func107 #[.int .u8 (bt a0 a1)] ?_; (with_reducible refine (spec_l1Small.calls (bt a0 a1) true _ A8.out).mono ?_); rintro e w' ⟨rfl, ⟨nd, rfl⟩⟩; refine ⟨_, rfl, ?_⟩))
      go_roundg b3
      case measure => have := a4.out; have := a6.out; omega
      case rel => exact ⟨(wrap64 (a1 + 1)), zS, H', ⟨by have := a4.out; have := a6.out; omega⟩, by repeat (first | exact Drawn0.refl _ | apply Drawn0.step)⟩
     replace H := zI1 H
     rcases H with ⟨a7, H⟩ | ⟨a7, H⟩
     ·have c0 := beq_iff_eq.mpr a7; have c2 := bne_eq_false_iff_eq.mpr a7; clear a7; obtain rfl := zm H; have p7 : 0 ≤ (a1 : Int) := zD; have q7 : a1 < (a0.size : Int) := zD; have b1 := bt_at a0 a1; replace p7 := eq_true p7; replace q7 := eq_true q7
      go_wp2_with (first | ((with_reducible refine zq 107 ?_); refine zg (some 13) Tryz.func107 #[.int .u8 (bt a0 a1)] ?_; (with_reducible refine (spec_l1Small.calls (bt a0 a1) false _ A8.out).mono ?_); rintro e w' ⟨rfl, ⟨nd, rfl⟩⟩; refine ⟨_, rfl, ?_⟩))
      go_ret
      exact ⟨by first | rfl | (simp; done) | (simp [*]; done) | (simp; rw [Bool.eq_iff_iff]; simp; done), by repeat (first | exact Drawn0.refl _ | apply Drawn0.step)⟩
     have c0 := beq_eq_false_iff_ne.mpr a7; have c2 := bne_iff_ne.mpr a7; replace H := Option.bind_eq_some_iff.mp H; obtain ⟨d1, b7, H⟩ := H
     try dsimp only at H
     have b4 := zA b7; clear b7; replace H := zB0 H
     rcases H with ⟨rfl, H⟩ | ⟨rfl, H⟩
     ·have H' := zA H; clear H; have p7 : 0 ≤ (a1 : Int) := zD; have q7 : a1 < (a0.size : Int) := zD; have b1 := bt_at a0 a1; replace p7 := eq_true p7; replace q7 := eq_true q7
      go_wp2_with (first | ((with_reducible refine zq 107 ?_); refine zg (some 13) Tryz.func107 #[.int .u8 (bt a0 a1)] ?_; (with_reducible refine (spec_l1Small.calls (bt a0 a1) false _ A8.out).mono ?_); rintro e w' ⟨rfl, ⟨nd, rfl⟩⟩; refine ⟨_, rfl, ?_⟩; have a2 : 0 ≤ (a1 : Int) := zD; have a3 : a1 < (a0.size : Int) := zD; have b8 := bt_at a0 a1; replace a2 := eq_true a2; replace a3 := eq_true a3) | (go_at_call 108; (with_reducible refine (spec_l1Digit.calls (bt a0 a1) true _ b4.out).mono ?_); rintro e w' ⟨rfl, ⟨nd, rfl⟩⟩))
      go_roundg b3
      case measure => have := a4.out; have := a6.out; omega
      case rel => exact ⟨(wrap64 (a1 + 1)), zS, H', ⟨by have := a4.out; have := a6.out; omega⟩, by repeat (first | exact Drawn0.refl _ | apply Drawn0.step)⟩
     replace H := zI1 H
     rcases H with ⟨a8, H⟩ | ⟨a8, H⟩
     ·have c4 := beq_iff_eq.mpr a8; have c5 := bne_eq_false_iff_eq.mpr a8; clear a8; have H' := zA H; clear H; have p7 : 0 ≤ (a1 : Int) := zD; have q7 : a1 < (a0.size : Int) := zD; have b1 := bt_at a0 a1; replace p7 := eq_true p7; replace q7 := eq_true q7
      go_wp2_with (first | ((with_reducible refine zq 107 ?_); refine zg (some 13) Tryz.func107 #[.int .u8 (bt a0 a1)] ?_; (with_reducible refine (spec_l1Small.calls (bt a0 a1) false _ A8.out).mono ?_); rintro e w' ⟨rfl, ⟨nd, rfl⟩⟩; refine ⟨_, rfl, ?_⟩; have a2 : 0 ≤ (a1 : Int) := zD; have a3 : a1 < (a0.size : Int) := zD; have b8 := bt_at a0 a1; replace a2 := eq_true a2; replace a3 := eq_true a3) | (go_at_call 108; (with_reducible refine (spec_l1Digit.calls (bt a0 a1) false _ b4.out).mono ?_); rintro e w' ⟨rfl, ⟨nd, rfl⟩⟩; have a9 : 0 ≤ (a1 : Int) := zD; have b0 : a1 < (a0.size : Int) := zD; have c6 := bt_at a0 a1; replace a9 := eq_true a9; replace b0 := eq_true b0))
      go_roundg b3
      case measure => have := a4.out; have := a6.out; omega
      case rel => exact ⟨(wrap64 (a1 + 1)), zS, H', ⟨by have := a4.out; have := a6.out; omega⟩, by repeat (first | exact Drawn0.refl _ | apply Drawn0.step)⟩
     have c4 := beq_eq_false_iff_ne.mpr a8; have c5 := bne_iff_ne.mpr a8; obtain rfl := zm H; have p7 : 0 ≤ (a1 : Int) := zD; have q7 : a1 < (a0.size : Int) := zD; have b1 := bt_at a0 a1; replace p7 := eq_true p7; replace q7 := eq_true q7
     go_wp2_with (first | ((with_reducible refine zq 107 ?_); refine zg (some 13) Tryz.func107 #[.int .u8 (bt a0 a1)] ?_; (with_reducible refine (spec_l1Small.calls (bt a0 a1) false _ A8.out).mono ?_); rintro e w' ⟨rfl, ⟨nd, rfl⟩⟩; refine ⟨_, rfl, ?_⟩; have a2 : 0 ≤ (a1 : Int) := zD; have a3 : a1 < (a0.size : Int) := zD; have b8 := bt_at a0 a1; replace a2 := eq_true a2; replace a3 := eq_true a3) | (go_at_call 108; (with_reducible refine (spec_l1Digit.calls (bt a0 a1) false _ b4.out).mono ?_); rintro e w' ⟨rfl, ⟨nd, rfl⟩⟩; have a9 : 0 ≤ (a1 : Int) := zD; have b0 : a1 < (a0.size : Int) := zD; have c6 := bt_at a0 a1; replace a9 := eq_true a9; replace b0 := eq_true b0))
     go_ret
     exact ⟨by first | rfl | (simp; done) | (simp [*]; done) | (simp; rw [Bool.eq_iff_iff]; simp; done), by repeat (first | exact Drawn0.refl _ | apply Drawn0.step)⟩
/-! ### spec_l7Names: function 54 -/
def spec_l7Names.l0 : Nat → List ByteArray → Int → Option (Bool)
 | 0, _, _ => none
 | k + 1, x0, x3 => if x3 < (x0.length : Int) then (if 0 ≤ x3 then ((spec_NameOk.f k (rdOf ByteArray.empty x0 x3)).bind fun a0 => (if a0 = true then (spec_l7Names.l0 k x0 (wrap64 (x3 + 1))) else (some false))) else (none)) else (some true)
def spec_l7Names.f (k : Nat) (l0 : List ByteArray) : Option (Bool) := spec_l7Names.l0 k l0 0
theorem spec_l7Names.calls (k : Nat) (A0 : Option Addr) (c0 : Nat) (l0 : List ByteArray) (r : Bool) (w : World) (a4 : Kd.C Kd.string w A0 l0.length l0) (a5 : l0.length ≤ c0) (h : spec_l7Names.f k l0 = some r) :
  Calls Tryz.prog 54 #[.slice A0 l0.length c0] w fun e w' => e = .returned (.bool r) ∧ Drawn0 w w' := by
 have a6 := zA a4
 have b2 := zA a5
 clear a4 a5
 unfold spec_l7Names.f at h
 have H := h
 clear h
 have H' := zA H
 clear H
 go_enter Tryz.func54, Tryz.ntmps54
 go_wp2
 go_loopg [3] k (fun kq v3 w' => ∃ (a0 : Int), v3 = .int .i64 a0 ∧ Aside0 (spec_l7Names.l0 kq l0 a0 = some r) ∧ Aside0 (kq ≤ k) ∧ Drawn0 w w')
 case atStart => exact ⟨(0), zS, H', ⟨Nat.le_refl _⟩, by repeat (first | exact Drawn0.refl _ | apply Drawn0.step)⟩
 case round =>
  clear H'; obtain ⟨a0, rfl, HA, a7, ⟨m1, rfl⟩⟩ := hrel
  cases gk with
  | zero => exact absurd HA.out (by simp [spec_l7Names.l0])
  | succ k1 =>
   have H := HA.out; clear HA; simp only [spec_l7Names.l0] at H; replace H := zI0 H
   rcases H with ⟨a9, H⟩ | ⟨a9, H⟩
   ·replace H := zD0 H; obtain ⟨b3, H⟩ := H; replace H := Option.bind_eq_some_iff.mp H; obtain ⟨b4, a8, H⟩ := H
    try dsimp only at H
    have A4 := zA a8; clear a8; replace H := zB0 H
    rcases H with ⟨rfl, H⟩ | ⟨rfl, H⟩
    ·have H' := zA H; clear H; have a1 : 0 ≤ (a0 : Int) := zD; have a2 : a0 < (l0.length : Int) := zD; obtain ⟨b0, a3, b1⟩ := Kd.at_string a6.out a0 a1 a2; cases a3; replace a1 := eq_true a1; replace a2 := eq_true a2
     go_wp2_with (first | ((with_reducible refine zq 53 ?_); refine zg (some 14) Tryz.func53 #[.string (rdOf ByteArray.empty l0 a0)] ?_; (with_reducible refine (spec_NameOk.calls k1 (rdOf ByteArray.empty l0 a0) true _ A4.out).mono ?_); rintro e w' ⟨rfl, ⟨nd, rfl⟩⟩; refine ⟨_, rfl, ?_⟩))
     go_roundg k1
     case measure => have := a7.out; omega
     case rel => exact ⟨(wrap64 (a0 + 1)), zS, H', ⟨by have := a7.out; omega⟩, by repeat (first | exact Drawn0.refl _ | apply Drawn0.step)⟩
    obtain rfl := zm H; have a1 : 0 ≤ (a0 : Int) := zD; have a2 : a0 < (l0.length : Int) := zD; obtain ⟨b0, a3, b1⟩ := Kd.at_string a6.out a0 a1 a2; cases a3; replace a1 := eq_true a1; replace a2 := eq_true a2
    go_wp2_with (first | ((with_reducible refine zq 53 ?_); refine zg (some 14) Tryz.func53 #[.string (rdOf ByteArray.empty l0 a0)] ?_; (with_reducible refine (spec_NameOk.calls k1 (rdOf ByteArray.empty l0 a0) false _ A4.out).mono ?_); rintro e w' ⟨rfl, ⟨nd, rfl⟩⟩; refine ⟨_, rfl, ?_⟩))
    go_ret
    exact ⟨by first | rfl | (simp; done) | (simp [*]; done) | (simp; rw [Bool.eq_iff_iff]; simp; done), by repeat (first | exact Drawn0.refl _ | apply Drawn0.step)⟩
   obtain rfl := zm H
   go_wp2
   go_ret
   exact ⟨by first | rfl | (simp; done) | (simp [*]; done) | (simp; rw [Bool.eq_iff_iff]; simp; done), by repeat (first | exact Drawn0.refl _ | apply Drawn0.step)⟩
/-! ### spec_l7Ascending: function 55 -/
def spec_l7Ascending.l0 : Nat → List ByteArray → Int → Option (Bool)
 | 0, _, _ => none
 | k + 1, x0, x3 => if x3 < (x0.length : Int) then (if 0 ≤ (wrap64 (x3 - 1)) then (if (wrap64 (x3 - 1)) < (x0.length : Int) then (if 0 ≤ x3 then (if ((Op.bytesLess ((rdOf ByteArray.empty x0 (wrap64 (x3 - 1))).toList) ((rdOf ByteArray.empty x0 x3).toList)) = true) then (spec_l7Ascending.l0 k x0 (wrap64 (x3 + 1))) else (some false)) else (none)) else (none)) else (none)) else (some true)
def spec_l7Ascending.f (k : Nat) (l0 : List ByteArray) : Option (Bool) := spec_l7Ascending.l0 k l0 1
theorem spec_l7Ascending.calls (k : Nat) (A0 : Option Addr) (c0 : Nat) (l0 : List ByteArray) (r : Bool) (w : World) (b2 : Kd.C Kd.string w A0 l0.length l0) (b3 : l0.length ≤ c0) (h : spec_l7Ascending.f k l0 = some r) :
  Calls Tryz.prog 55 #[.slice A0 l0.length c0] w fun e w' => e = .returned (.bool r) ∧ Drawn0 w w' := by
 have a6 := zA b2
 have b9 := zA b3
 clear b2 b3
 unfold spec_l7Ascending.f at h
 have H := h
 clear h
 have H' := zA H
 clear H
 go_enter Tryz.func55, Tryz.ntmps55
 go_wp2
 repeat (go_quiet (fail); try go_wp2)
 go_loopg [3] k (fun kq v3 w' => ∃ (a0 : Int), v3 = .int .i64 a0 ∧ Aside0 (spec_l7Ascending.l0 kq l0 a0 = some r) ∧ Aside0 (kq ≤ k) ∧ Drawn0 w w')
 case atStart => exact ⟨(1), zS, H', ⟨Nat.le_refl _⟩, by repeat (first | exact Drawn0.refl _ | apply Drawn0.step)⟩
 case round =>
  clear H'; obtain ⟨a0, rfl, HA, b4, ⟨m1, rfl⟩⟩ := hrel
  cases gk with
  | zero => exact absurd HA.out (by simp [spec_l7Ascending.l0])
  | succ k1 =>
   have H := HA.out; clear HA; simp only [spec_l7Ascending.l0] at H; replace H := zI0 H
   rcases H with ⟨b5, H⟩ | ⟨b5, H⟩
   ·obtain ⟨a1, a7⟩ : ∃ j_ : Int, (wrap64 (a0 - 1)) = j_ := ⟨_, rfl⟩
    replace H : (if 0 ≤ (a1) then (if (a1) < (l0.length : Int) then (if 0 ≤ a0 then (if ((Op.bytesLess ((rdOf ByteArray.empty l0 (a1)).toList) ((rdOf ByteArray.empty l0 a0).toList)) = true) then (spec_l7Ascending.l0 k1 l0 (wrap64 (a0 + 1))) else (some false)) else (none)) else (none)) else (none)) = some r := by first | (rw [a7] at H; exact H) | (simp only [a7] at H ⊢; exact H)
    have hji3w : (IntKind.i64.wrap (a0 - 1)) = a1 := (i64_w _).trans a7; replace H := zD0 H; obtain ⟨c1, H⟩ := H; replace H := zD0 H; obtain ⟨c2, H⟩ := H; replace H := zD0 H; obtain ⟨c3, H⟩ := H; replace H := zI1 H
    rcases H with ⟨c7, H⟩ | ⟨c7, H⟩
    ·have b6 : (Op.bytesLess ((rdOf ByteArray.empty l0 (a1)).toList) ((rdOf ByteArray.empty l0 a0).toList)) = true := c7; clear c7; have H' := zA H; clear H; have a2 : 0 ≤ ((a1) : Int) := zD; have a3 : (a1) < (l0.length : Int) := zD; obtain ⟨a8, a9, b7⟩ := Kd.at_string a6.out (a1) a2 a3; cases a9; replace a2 := eq_true a2; replace a3 := eq_true a3; have a4 : 0 ≤ (a0 : Int) := zD; have a5 : a0 < (l0.length : Int) := zD; obtain ⟨b0, b1, b8⟩ := Kd.at_string a6.out a0 a4 a5; obtain rfl : a8 = b0 := (by injection b1); replace a4 := eq_true a4; replace a5 := eq_true a5
     go_wp2
     repeat (go_quiet (fail); try go_wp2)
     go_roundg k1
     case measure => have := b4.out; omega
     case rel => exact ⟨(wrap64 (a0 + 1)), zS, H', ⟨by have := b4.out; omega⟩, by repeat (first | exact Drawn0.refl _ | apply Drawn0.step)⟩
    have b6 : (Op.bytesLess ((rdOf ByteArray.empty l0 (a1)).toList) ((rdOf ByteArray.empty l0 a0).toList)) = false := by simpa using c7
    clear c7; obtain rfl := zm H; have a2 : 0 ≤ ((a1) : Int) := zD; have a3 : (a1) < (l0.length : Int) := zD; obtain ⟨a8, a9, b7⟩ := Kd.at_string a6.out (a1) a2 a3; cases a9; replace a2 := eq_true a2; replace a3 := eq_true a3; have a4 : 0 ≤ (a0 : Int) := zD; have a5 : a0 < (l0.length : Int) := zD; obtain ⟨b0, b1, b8⟩ := Kd.at_string a6.out a0 a4 a5; obtain rfl : a8 = b0 := (by injection b1); replace a4 := eq_true a4; replace a5 := eq_true a5
    go_wp2
    repeat (go_quiet (fail); try go_wp2)
    go_ret
    exact ⟨by first | rfl | (simp; done) | (simp only [← a7] <;> (first | rfl | simp)) | (simp [*]; done), by repeat (first | exact Drawn0.refl _ | apply Drawn0.step)⟩
   obtain rfl := zm H
   go_wp2
   repeat (go_quiet (fail); try go_wp2)
   go_ret
   exact ⟨by first | rfl | (simp; done) | (simp [*]; done) | (simp; rw [Bool.eq_iff_iff]; simp; done), by repeat (first | exact Drawn0.refl _ | apply Drawn0.step)⟩
/-! ### spec_l4Sides: function 76 -/
def spec_l4Sides.l0 : Nat → ByteArray → List ByteArray → Int → Int → Option (List ByteArray)
 | 0, _, _, _, _ => none
 | k + 1, x0, x3, x4, x5 => if (wrap64 (x5 + 1)) < (x0.size : Int) then (if 0 ≤ x5 then (if x5 < (x0.size : Int) then (if (bt x0 x5) = 124 then (if 0 ≤ (wrap64 (x5 + 1)) then (if (bt x0 (wrap64 (x5 + 1))) = 124 then (if 0 ≤ x4 then (if x4 ≤ x5 then (if x5 ≤ (x0.size : Int) then (if x3.length < 8796093022208 then (spec_l4Sides.l0 k x0 (x3 ++ [x0.extract (x4 : Int).toNat (x5 : Int).toNat]) (wrap64 (x5 + 2)) (wrap64 ((wrap64 (x5 + 1)) + 1))) else (none)) else (none)) else (none)) else (none)) else (spec_l4Sides.l0 k x0 x3 x4 (wrap64 (x5 + 1)))) else (none)) else (spec_l4Sides.l0 k x0 x3 x4 (wrap64 (x5 + 1)))) else (none)) else (none)) else (if 0 ≤ x4 then (if x4 ≤ (x0.size : Int) then (if x3.length < 8796093022208 then (some (x3 ++ [x0.extract (x4 : Int).toNat x0.size])) else (none)) else (none)) else (none))
def spec_l4Sides.f (k : Nat) (a0 : ByteArray) : Option (List ByteArray) := spec_l4Sides.l0 k a0 (([] : List ByteArray)) 0 0
theorem spec_l4Sides.calls (k : Nat) (a0 : ByteArray) (r : List ByteArray) (w : World) (h : spec_l4Sides.f k a0 = some r) :
  Calls Tryz.prog 76 #[.string a0] w fun e w' => ∃ c0 : Value, e = .returned (c0) ∧ Kd.R Kd.string 9 w' w.heap.size (fun _ => True) c0 r ∧ Below w.heap.size w w' := by
 have HB := zA (Below.refl w.heap.size w)
 unfold spec_l4Sides.f at h
 have H := h
 clear h
 obtain ⟨c1, b2⟩ : ∃ y_ : List ByteArray, y_ = (([] : List ByteArray)) := ⟨_, rfl⟩
 replace H : (spec_l4Sides.l0 k a0 c1 0 0) = some r := zY b2 H
 have c2 := zA b2
 clear b2
 have H' := zA H
 clear H
 go_enter Tryz.func76, Tryz.ntmps76
 go_wp2_with (first | ((with_reducible refine gate_dst (N := 6) rfl ?_); refine Kd.R_lit Kd.string _ 9 ?hg (N := 6) ?hd (xs := ([] : List ByteArray)) (inner := []) (ok := fun _ => True) ?hr ?hp (fun _ hk => hk) trivial (Below.refl _ _) (Nat.le_refl _) (by simp) ?_; (case hd => rfl); (case hg => rfl); (case hr => first | (go_simp; done) | (go_simp; rfl)); (case hp => exact (Reps.none _ _)); intro e2 w2 a9 hb hg_ hnew_; clear hg_ hnew_; (first | rw [← c2.out] at a9 | (simp only [Int.reduceToNat] at a9; rw [← c2.out] at a9)); have c9 := zA (Kd.R_lower a9 (below_size (zB))); replace HB := zA (below_step (zB) hb); clear hb a9))
 go_loopg [3, 4, 5] k (fun kq v3 v4 v5 w' => ∃ (a4 : List ByteArray) (a2 : Int) (a1 : Int), v4 = .int .i64 a2 ∧ v5 = .int .i64 a1 ∧ Aside0 (spec_l4Sides.l0 kq a0 a4 a2 a1 = some r) ∧ Aside0 (kq ≤ k) ∧ Aside0 (Kd.R Kd.string 9 w' w.heap.size (fun _ => True) v3 a4) ∧ Aside0 (Below w.heap.size w w'))
 case atStart => exact ⟨(c1), (0), (0), zS, zS, H', ⟨Nat.le_refl _⟩, ⟨zR c9.out⟩, ⟨zB⟩⟩
 case round =>
  clear H'
  try clear p2
  obtain ⟨a4, a2, a1, rfl, rfl, HA, a5, a6, HB⟩ := hrel
  cases gk with
  | zero => exact absurd HA.out (by simp [spec_l4Sides.l0])
  | succ k1 =>
   have H := HA.out; clear HA; simp only [spec_l4Sides.l0] at H; replace H := zI0 H
   rcases H with ⟨c3, H⟩ | ⟨c3, H⟩
   ·replace H := zD0 H; obtain ⟨e3, H⟩ := H; replace H := zD0 H; obtain ⟨e4, H⟩ := H; replace H := zI1 H
    rcases H with ⟨c8, H⟩ | ⟨c8, H⟩
    ·have d0 := beq_iff_eq.mpr c8; have d1 := bne_eq_false_iff_eq.mpr c8; clear c8; obtain ⟨a3, a7⟩ : ∃ j_ : Int, (wrap64 (a1 + 1)) = j_ := ⟨_, rfl⟩
     replace H : (if 0 ≤ (a3) then (if (bt a0 (a3)) = 124 then (if 0 ≤ a2 then (if a2 ≤ a1 then (if a1 ≤ (a0.size : Int) then (if a4.length < 8796093022208 then (spec_l4Sides.l0 k1 a0 (a4 ++ [a0.extract (a2 : Int).toNat (a1 : Int).toNat]) (wrap64 (a1 + 2)) (wrap64 ((a3) + 1))) else (none)) else (none)) else (none)) else (none)) else (spec_l4Sides.l0 k1 a0 a4 a2 a3)) else (none)) = some r := by first | (rw [a7] at H; exact H) | (simp only [a7] at H ⊢; exact H)
     (try rw [a7] at c3)
     have hji9w : (IntKind.i64.wrap (a1 + 1)) = a3 := (i64_w _).trans a7; replace H := zD0 H; obtain ⟨e5, H⟩ := H; replace H := zI1 H
     rcases H with ⟨a8, H⟩ | ⟨a8, H⟩
     ·have d2 := beq_iff_eq.mpr a8; have d3 := bne_eq_false_iff_eq.mpr a8; clear a8; replace H := zC0 H; obtain ⟨b3, H⟩ := H; have e6 := eq_true b3; have e7 := decide_eq_true b3; clear b3; replace H := zC0 H; obtain ⟨b4, H⟩ := H; have e8 := eq_true b4; have e9 := decide_eq_true b4; clear b4; replace H := zC0 H; obtain ⟨b5, H⟩ := H; have f0 := eq_true b5; have f1 := decide_eq_true b5; clear b5; replace H := zC0 H; obtain ⟨c4, H⟩ := H; have d4 := zA c4; clear c4; obtain ⟨c5, b6⟩ : ∃ y_ : List ByteArray, y_ = (a4 ++ [a0.extract (a2 : Int).toNat (a1 : Int).toNat]) := ⟨_, rfl⟩; replace H : (spec_l4Sides.l0 k1 a0 c5 (wrap64 (a1 + 2)) (wrap64 ((a3) + 1))) = some r := zY b6 H; have d5 := zA b6; clear b6; have H' := zA H; clear H; have p7 : 0 ≤ (a1 : Int) := zD; have q7 : a1 < (a0.size : Int) := zD; have c6 := bt_at a0 a1; replace p7 := eq_true p7; replace q7 := eq_true q7; have b0 : 0 ≤ ((a3) : Int) := zD; have b1 : (a3) < (a0.size : Int) := zD; have d6 := bt_at a0 (a3); replace b0 := eq_true b0; replace b1 := eq_true b1
      go_wp2_with (first | ((with_reducible refine gate_builtin (b := .append) (xs := #[.tmp 25, .tmp 30]) rfl ?_); at_builtin; refine Kd.R_append Kd.string (w0 := w) w.heap.size rfl (.tmp 25) (.tmp 30) 24 9 (.string ⟨#[]⟩) 16 rfl Tryz.underlying24 info9 rfl (by decide) (by omega) u3 a4 (a0.extract (a2 : Int).toNat (a1 : Int).toNat) [.string (a0.extract (a2 : Int).toNat (a1 : Int).toNat)] (fun _ => True) (fun _ => False) rfl rfl ?aP (fun _ hk => hk.elim) ?aF ?aO ?aB ?aS ?aL ?_; (case aP => exact rfl); (case aB => exact (zB)); (case aF => exact (fun _ _ => trivial)); (case aO => exact (zR a6.out)); (case aS => exact (below_size (zB))); (case aL => have := d4.out; omega); intro f2 f3 ho hb hg hat; rw [← d5.out] at ho; replace HB := zA (hb); have d7 := zA (ho); clear a6; clear ho hb hg hat))
      go_roundg k1
      case measure => have := a5.out; omega
      case rel => exact ⟨(c5), (wrap64 (a1 + 2)), (wrap64 ((a3) + 1)), zS, (by first | rfl | (simp; done) | (simp only [← a7] <;> (first | rfl | simp)) | (simp [*]; done)), H', ⟨by have := a5.out; omega⟩, ⟨zR d7.out⟩, ⟨zB⟩⟩
     have d2 := beq_eq_false_iff_ne.mpr a8; have d3 := bne_iff_ne.mpr a8; have H' := zA H; clear H; have p7 : 0 ≤ (a1 : Int) := zD; have q7 : a1 < (a0.size : Int) := zD; have c6 := bt_at a0 a1; replace p7 := eq_true p7; replace q7 := eq_true q7; have b0 : 0 ≤ ((a3) : Int) := zD; have b1 : (a3) < (a0.size : Int) := zD; have d6 := bt_at a0 (a3); replace b0 := eq_true b0; replace b1 := eq_true b1
     go_wp2
     go_roundg k1
     case measure => have := a5.out; omega
     case rel => exact ⟨(a4), (a2), (a3), zS, (by first | rfl | (simp; done) | (simp only [← a7] <;> (first | rfl | simp)) | (simp [*]; done)), H', ⟨by have := a5.out; omega⟩, ⟨zR a6.out⟩, ⟨zB⟩⟩
    have d0 := beq_eq_false_iff_ne.mpr c8; have d1 := bne_iff_ne.mpr c8; have H' := zA H; clear H; have p7 : 0 ≤ (a1 : Int) := zD; have q7 : a1 < (a0.size : Int) := zD; have c6 := bt_at a0 a1; replace p7 := eq_true p7; replace q7 := eq_true q7
    go_wp2
    go_roundg k1
    case measure => have := a5.out; omega
    case rel => exact ⟨(a4), (a2), (wrap64 (a1 + 1)), zS, zS, H', ⟨by have := a5.out; omega⟩, ⟨zR a6.out⟩, ⟨zB⟩⟩
   replace H := zC0 H; obtain ⟨b7, H⟩ := H; have f4 := eq_true b7; have f5 := decide_eq_true b7; clear b7; replace H := zC0 H; obtain ⟨b8, H⟩ := H; have f6 := eq_true b8; have f7 := decide_eq_true b8; clear b8; replace H := zC0 H; obtain ⟨c7, H⟩ := H; have d8 := zA c7; clear c7; obtain ⟨d9, b9⟩ : ∃ y_ : List ByteArray, y_ = (a4 ++ [a0.extract (a2 : Int).toNat a0.size]) := ⟨_, rfl⟩; replace H : (some d9) = some r := zY b9 H; have e0 := zA b9; clear b9; obtain rfl := zm H
   go_wp2_with (first | ((with_reducible refine gate_builtin (b := .append) (xs := #[.tmp 36, .tmp 40]) rfl ?_); at_builtin; refine Kd.R_append Kd.string (w0 := w) w.heap.size rfl (.tmp 36) (.tmp 40) 24 9 (.string ⟨#[]⟩) 16 rfl Tryz.underlying24 info9 rfl (by decide) (by omega) u3 a4 (a0.extract (a2 : Int).toNat a0.size) [.string (a0.extract (a2 : Int).toNat a0.size)] (fun _ => True) (fun _ => False) rfl rfl ?aP (fun _ hk => hk.elim) ?aF ?aO ?aB ?aS ?aL ?_; (case aP => exact rfl); (case aB => exact (zB)); (case aF => exact (fun _ _ => trivial)); (case aO => exact (zR a6.out)); (case aS => exact (below_size (zB))); (case aL => have := d8.out; omega); intro f8 f9 ho hb hg hat; rw [← e0.out] at ho; replace HB := zA (hb); have e1 := zA (ho); clear a6; clear ho hb hg hat))
   go_ret
   exact ⟨_, zE, zR e1.out, zB⟩
/-! ### spec_l3Digits: function 150 -/
def spec_l3Digits.l0 : Nat → ByteArray → Int → Option (Bool)
 | 0, _, _ => none
 | k + 1, x0, x3 => if x3 < (x0.size : Int) then (if 0 ≤ x3 then ((spec_l1Digit.f (bt x0 x3)).bind fun a0 => (if a0 = true then (spec_l3Digits.l0 k x0 (wrap64 (x3 + 1))) else (some false))) else (none)) else (some true)
def spec_l3Digits.f (k : Nat) (a0 : ByteArray) : Option (Bool) := spec_l3Digits.l0 k a0 0
theorem spec_l3Digits.calls (k : Nat) (a0 : ByteArray) (r : Bool) (w : World) (h : spec_l3Digits.f k a0 = some r) :
  Calls Tryz.prog 150 #[.string a0] w fun e w' => e = .returned (.bool r) ∧ Drawn0 w w' := by
 unfold spec_l3Digits.f at h
 have H := h
 clear h
 have H' := zA H
 clear H
 go_enter Tryz.func150, Tryz.ntmps150
 go_wp2
 go_loopg [3] k (fun kq v3 w' => ∃ (a1 : Int), v3 = .int .i64 a1 ∧ Aside0 (spec_l3Digits.l0 kq a0 a1 = some r) ∧ Aside0 (kq ≤ k) ∧ Drawn0 w w')
 case atStart => exact ⟨(0), zS, H', ⟨Nat.le_refl _⟩, by repeat (first | exact Drawn0.refl _ | apply Drawn0.step)⟩
 case round =>
  clear H'
  try clear c1
  obtain ⟨a1, rfl, HA, a2, ⟨m1, rfl⟩⟩ := hrel
  cases gk with
  | zero => exact absurd HA.out (by simp [spec_l3Digits.l0])
  | succ k1 =>
   have H := HA.out; clear HA; simp only [spec_l3Digits.l0] at H; replace H := zI0 H
   rcases H with ⟨a4, H⟩ | ⟨a4, H⟩
   ·replace H := zD0 H; obtain ⟨a6, H⟩ := H; replace H := Option.bind_eq_some_iff.mp H; obtain ⟨a7, a3, H⟩ := H
    try dsimp only at H
    have A5 := zA a3; clear a3; replace H := zB0 H
    rcases H with ⟨rfl, H⟩ | ⟨rfl, H⟩
    ·have H' := zA H; clear H; have p4 : 0 ≤ (a1 : Int) := zD; have q4 : a1 < (a0.size : Int) := zD; have a5 := bt_at a0 a1; replace p4 := eq_true p4; replace q4 := eq_true q4
     go_wp2_with (first | ((with_reducible refine zq 108 ?_); refine zg (some 13) Tryz.func108 #[.int .u8 (bt a0 a1)] ?_; (with_reducible refine (spec_l1Digit.calls (bt a0 a1) true _ A5.out).mono ?_); rintro e w' ⟨rfl, ⟨nd, rfl⟩⟩; refine ⟨_, rfl, ?_⟩))
     go_roundg k1
     case measure => have := a2.out; omega
     case rel => exact ⟨(wrap64 (a1 + 1)), zS, H', ⟨by have := a2.out; omega⟩, by repeat (first | exact Drawn0.refl _ | apply Drawn0.step)⟩
    obtain rfl := zm H; have p4 : 0 ≤ (a1 : Int) := zD; have q4 : a1 < (a0.size : Int) := zD; have a5 := bt_at a0 a1; replace p4 := eq_true p4; replace q4 := eq_true q4
    go_wp2_with (first | ((with_reducible refine zq 108 ?_); refine zg (some 13) Tryz.func108 #[.int .u8 (bt a0 a1)] ?_; (with_reducible refine (spec_l1Digit.calls (bt a0 a1) false _ A5.out).mono ?_); rintro e w' ⟨rfl, ⟨nd, rfl⟩⟩; refine ⟨_, rfl, ?_⟩))
    go_ret
    exact ⟨by first | rfl | (simp; done) | (simp [*]; done) | (simp; rw [Bool.eq_iff_iff]; simp; done), by repeat (first | exact Drawn0.refl _ | apply Drawn0.step)⟩
   obtain rfl := zm H
   go_wp2
   go_ret
   exact ⟨by first | rfl | (simp; done) | (simp [*]; done) | (simp; rw [Bool.eq_iff_iff]; simp; done), by repeat (first | exact Drawn0.refl _ | apply Drawn0.step)⟩
/-! ### spec_l3Part: function 119 -/
mutual
def spec_l3Part.l0 : Nat → ByteArray → Int → Option (Bool)
 | 0, _, _ => none
 | k + 1, x0, x3 => if x3 < (x0.size : Int) then (spec_l3Part.j1 k x0 x3) else ((spec_l1In.f (x0.size : Int) 1 8).bind fun a0 => (if a0 = true then ((spec_l3Digits.f k x0).bind fun a1 => (if a1 = true then (if (x0.size : Int) = 1 then (some true) else (if 0 < (x0.size : Int) then (some ((bt x0 0) != 48)) else (none))) else (some true))) else (some false)))
def spec_l3Part.j1 : Nat → ByteArray → Int → Option (Bool)
 | 0, _, _ => none
 | k + 1, x0, x3 => if 0 ≤ x3 then (if x3 < (x0.size : Int) then ((spec_l1Digit.f (bt x0 x3)).bind fun a2 => (if a2 = true then (spec_l3Part.l0 k x0 (wrap64 (x3 + 1))) else ((spec_l1Small.f (bt x0 x3)).bind fun a3 => (if a3 = true then (spec_l3Part.l0 k x0 (wrap64 (x3 + 1))) else ((spec_l1In.f (wrap64 (bt x0 x3)) 65 90).bind fun a4 => (if a4 = true then (spec_l3Part.l0 k x0 (wrap64 (x3 + 1))) else (if (bt x0 x3) = 45 then (spec_l3Part.l0 k x0 (wrap64 (x3 + 1))) else (some false)))))))) else (none)) else (none)
end
def spec_l3Part.f (k : Nat) (a0 : ByteArray) : Option (Bool) := spec_l3Part.l0 k a0 0
theorem spec_l3Part.calls (k : Nat) (a0 : ByteArray) (r : Bool) (w : World) (h : spec_l3Part.f k a0 = some r) :
  Calls Tryz.prog 119 #[.string a0] w fun e w' => e = .returned (.bool r) ∧ Drawn0 w w' := by
 unfold spec_l3Part.f at h
 have H := h
 clear h
 have H' := zA H
 clear H
 go_enter Tryz.func119, Tryz.ntmps119
 go_wp2
 go_loopg [3] k (fun kq v3 w' => ∃ (a1 : Int), v3 = .int .i64 a1 ∧ Aside0 (spec_l3Part.l0 kq a0 a1 = some r) ∧ Aside0 (kq ≤ k) ∧ Drawn0 w w')
 case atStart => exact ⟨(0), zS, H', ⟨Nat.le_refl _⟩, by repeat (first | exact Drawn0.refl _ | apply Drawn0.step)⟩
 case round =>
  clear H'
  try clear c1
  obtain ⟨a1, rfl, HA, a6, ⟨m1, rfl⟩⟩ := hrel
  cases gk with
  | zero => exact absurd HA.out (by simp [spec_l3Part.l0])
  | succ k1 =>
   have H := HA.out; clear HA; simp only [spec_l3Part.l0] at H; have b9 := zA H; clear H
   go_upto_if 7 with (fail)
   go_cut [] (fun wc => ∃ (kq : Nat), Aside0 (spec_l3Part.j1 kq a0 a1 = some r) ∧ Aside0 (kq ≤ k1) ∧ Drawn0 w wc)
   case first =>
    have H := b9.out; clear b9; replace H := zI0 H
    rcases H with ⟨b0, H⟩ | ⟨b0, H⟩
    ·(first | rw [b0] | (simp only [i64_w, i32_w]; rw [b0]) | skip)
     have H' := zA H; clear H
     go_wp2
     go_meet
     case rel => exact ⟨_, (by first | exact H' | (subst_vars; exact H')), ⟨by have := a6.out; first | omega | exact Nat.le_refl _⟩, by repeat (first | exact Drawn0.refl _ | apply Drawn0.step)⟩
    (first | rw [b0] | (simp only [i64_w, i32_w]; rw [b0]) | skip)
    replace H := Option.bind_eq_some_iff.mp H; obtain ⟨e4, c6, H⟩ := H
    try dsimp only at H
    have A4 := zA c6; clear c6; replace H := zB0 H
    rcases H with ⟨rfl, H⟩ | ⟨rfl, H⟩
    ·replace H := Option.bind_eq_some_iff.mp H; obtain ⟨e5, d0, H⟩ := H
     try dsimp only at H
     have A6 := zA d0; clear d0; replace H := zB0 H
     rcases H with ⟨rfl, H⟩ | ⟨rfl, H⟩
     ·replace H := zI1 H
      rcases H with ⟨c8, H⟩ | ⟨c8, H⟩
      ·have d1 := beq_iff_eq.mpr c8; have d2 := bne_eq_false_iff_eq.mpr c8; clear c8; obtain rfl := zm H
       go_wp2_with (first | ((with_reducible refine zq 104 ?_); refine zg (some 38) Tryz.func104 #[.int .i64 (a0.size : Int), .int .i64 1, .int .i64 8] ?_; (with_reducible refine (spec_l1In.calls (a0.size : Int) 1 8 true _ A4.out).mono ?_); rintro e w' ⟨rfl, ⟨nd, rfl⟩⟩; refine ⟨_, rfl, ?_⟩) | (go_at_call 150; (with_reducible refine (spec_l3Digits.calls k1 a0 true _ A6.out).mono ?_); rintro e w' ⟨rfl, ⟨nd, rfl⟩⟩))
       go_ret
       exact ⟨by first | rfl | (simp; done) | (simp [*]; done) | (simp; rw [Bool.eq_iff_iff]; simp; done), by repeat (first | exact Drawn0.refl _ | apply Drawn0.step)⟩
      have d1 := beq_eq_false_iff_ne.mpr c8; have d2 := bne_iff_ne.mpr c8; replace H := zC0 H; obtain ⟨c9, H⟩ := H; have d7 := decide_eq_true c9; have d8 : decide (0 < a0.size) = true := decide_eq_true (by omega); clear c9; obtain rfl := zm H
      go_wp2_with (first | ((with_reducible refine zq 104 ?_); refine zg (some 38) Tryz.func104 #[.int .i64 (a0.size : Int), .int .i64 1, .int .i64 8] ?_; (with_reducible refine (spec_l1In.calls (a0.size : Int) 1 8 true _ A4.out).mono ?_); rintro e w' ⟨rfl, ⟨nd, rfl⟩⟩; refine ⟨_, rfl, ?_⟩) | (go_at_call 150; (with_reducible refine (spec_l3Digits.calls k1 a0 true _ A6.out).mono ?_); rintro e w' ⟨rfl, ⟨nd, rfl⟩⟩; have c0 : 0 ≤ (0 : Int) := (by omega); have b5 : 0 < a0.size := (by have : (0 : Int) < (a0.size : Int) := zD; omega); have d9 : ∀ h : 0 < a0.size, ((a0[0]'h).toNat : Int) = bt a0 0 := bt_at a0 0; clear c0; have e0 : (0 < (a0.size : Int)) = True := eq_true (zD); replace b5 := eq_true b5))
      go_ret
      exact ⟨by first | rfl | (simp; done) | (simp [*]; done) | (simp; rw [Bool.eq_iff_iff]; simp; done), by repeat (first | exact Drawn0.refl _ | apply Drawn0.step)⟩
     obtain rfl := zm H
     go_wp2_with (first | ((with_reducible refine zq 104 ?_); refine zg (some 38) Tryz.func104 #[.int .i64 (a0.size : Int), .int .i64 1, .int .i64 8] ?_; (with_reducible refine (spec_l1In.calls (a0.size : Int) 1 8 true _ A4.out).mono ?_); rintro e w' ⟨rfl, ⟨nd, rfl⟩⟩; refine ⟨_, rfl, ?_⟩) | (go_at_call 150; (with_reducible refine (spec_l3Digits.calls k1 a0 false _ A6.out).mono ?_); rintro e w' ⟨rfl, ⟨nd, rfl⟩⟩))
     go_ret
     exact ⟨by first | rfl | (simp; done) | (simp [*]; done) | (simp; rw [Bool.eq_iff_iff]; simp; done), by repeat (first | exact Drawn0.refl _ | apply Drawn0.step)⟩
    obtain rfl := zm H
    go_wp2_with (first | ((with_reducible refine zq 104 ?_); refine zg (some 38) Tryz.func104 #[.int .i64 (a0.size : Int), .int .i64 1, .int .i64 8] ?_; (with_reducible refine (spec_l1In.calls (a0.size : Int) 1 8 false _ A4.out).mono ?_); rintro e w' ⟨rfl, ⟨nd, rfl⟩⟩; refine ⟨_, rfl, ?_⟩))
    go_ret
    exact ⟨by first | rfl | (simp; done) | (simp [*]; done) | (simp; rw [Bool.eq_iff_iff]; simp; done), by repeat (first | exact Drawn0.refl _ | apply Drawn0.step)⟩
   case rest =>
    clear b9
    try clear c1
    try clear p1
    try clear q1
    try clear hx1
    try clear qi1
    try clear p2
    try clear c3
    try clear b0
    try clear c5
    try clear c7
    try clear c8
    try clear d1
    try clear d2
    try clear c9
    try clear d7
    try clear d8
    try clear c10
    try clear c0
    try clear b5
    try clear d9
    try clear e0
    try clear c0
    try clear b5
    obtain ⟨kq, HA, a7, ⟨e6, rfl⟩⟩ := hcut
    cases kq with
    | zero => exact absurd HA.out (by simp [spec_l3Part.j1])
    | succ b6 =>
     have H := HA.out; clear HA; simp only [spec_l3Part.j1] at H; replace H := zD0 H; obtain ⟨e7, H⟩ := H; replace H := zD0 H; obtain ⟨e8, H⟩ := H; replace H := Option.bind_eq_some_iff.mp H; obtain ⟨e9, d3, H⟩ := H
     try dsimp only at H
     have b2 := zA d3; clear d3; replace H := zB0 H
     rcases H with ⟨rfl, H⟩ | ⟨rfl, H⟩
     ·have H' := zA H; clear H; have a2 : 0 ≤ (a1 : Int) := zD; have a3 : a1 < (a0.size : Int) := zD; have b7 := bt_at a0 a1; replace a2 := eq_true a2; replace a3 := eq_true a3
      go_wp2_with (first | ((with_reducible refine zq 108 ?_); refine zg (some 13) Tryz.func108 #[.int .u8 (bt a0 a1)] ?_; (with_reducible refine (spec_l1Digit.calls (bt a0 a1) true _ b2.out).mono ?_); rintro e w' ⟨rfl, ⟨nd, rfl⟩⟩; refine ⟨_, rfl, ?_⟩))
      go_roundg b6
      case measure => have := a6.out; have := a7.out; omega
      case rel => exact ⟨(wrap64 (a1 + 1)), zS, H', ⟨by have := a6.out; have := a7.out; omega⟩, by repeat (first | exact Drawn0.refl _ | apply Drawn0.step)⟩
     replace H := Option.bind_eq_some_iff.mp H; obtain ⟨f0, d4, H⟩ := H
     try dsimp only at H
     have b8 := zA d4; clear d4; replace H := zB0 H
     rcases H with ⟨rfl, H⟩ | ⟨rfl, H⟩
     ·have H' := zA H; clear H; have a2 : 0 ≤ (a1 : Int) := zD; have a3 : a1 < (a0.size : Int) := zD; have b7 := bt_at a0 a1; replace a2 := eq_true a2; replace a3 := eq_true a3
      go_wp2_with (first | ((with_reducible refine zq 108 ?_); refine zg (some 13) Tryz.func108 #[.int .u8 (bt a0 a1)] ?_; (with_reducible refine (spec_l1Digit.calls (bt a0 a1) false _ b2.out).mono ?_); rintro e w' ⟨rfl, ⟨nd, rfl⟩⟩; refine ⟨_, rfl, ?_⟩; have a4 : 0 ≤ (a1 : Int) := zD; have a5 : a1 < (a0.size : Int) := zD; have c2 := bt_at a0 a1; replace a4 := eq_true a4; replace a5 := eq_true a5) | (go_at_call 107; (with_reducible refine (spec_l1Small.calls (bt a0 a1) true _ b8.out).mono ?_); rintro e w' ⟨rfl, ⟨nd, rfl⟩⟩))
      go_roundg b6
      case measure => have := a6.out; have := a7.out; omega
      case rel => exact ⟨(wrap64 (a1 + 1)), zS, H', ⟨by have := a6.out; have := a7.out; omega⟩, by repeat (first | exact Drawn0.refl _ | apply Drawn0.step)⟩
     replace H := Option.bind_eq_some_iff.mp H; obtain ⟨f1, d5, H⟩ := H
     try dsimp only at H
     have c4 := zA d5; clear d5; replace H := zB0 H
     rcases H with ⟨rfl, H⟩ | ⟨rfl, H⟩
     ·have H' := zA H; clear H; have a2 : 0 ≤ (a1 : Int) := zD; have a3 : a1 < (a0.size : Int) := zD; have b7 := bt_at a0 a1; replace a2 := eq_true a2; replace a3 := eq_true a3
      go_wp2_with (first | ((with_reducible refine zq 108 ?_); refine zg (some 13) Tryz.func108 #[.int .u8 (bt a0 a1)] ?_; (with_reducible refine (spec_l1Digit.calls (bt a0 a1) false _ b2.out).mono ?_); rintro e w' ⟨rfl, ⟨nd, rfl⟩⟩; refine ⟨_, rfl, ?_⟩; have a4 : 0 ≤ (a1 : Int) := zD; have a5 : a1 < (a0.size : Int) := zD; have c2 := bt_at a0 a1; replace a4 := eq_true a4; replace a5 := eq_true a5) | (go_at_call 107; (with_reducible refine (spec_l1Small.calls (bt a0 a1) false _ b8.out).mono ?_); rintro e w' ⟨rfl, ⟨nd, rfl⟩⟩; have a8 : 0 ≤ (a1 : Int) := zD; have a9 : a1 < (a0.size : Int) := zD; have d6 := bt_at a0 a1; replace a8 := eq_true a8; replace a9 := eq_true a9) | (go_at_call 104; (with_reducible refine (spec_l1In.calls (wrap64 (bt a0 a1)) 65 90 true _ c4.out).mono ?_); rintro e w' ⟨rfl, ⟨nd, rfl⟩⟩))
      go_roundg b6
      case measure => have := a6.out; have := a7.out; omega
      case rel => exact ⟨(wrap64 (a1 + 1)), zS, H', ⟨by have := a6.out; have := a7.out; omega⟩, by repeat (first | exact Drawn0.refl _ | apply Drawn0.step)⟩
     replace H := zI1 H
     rcases H with ⟨b1, H⟩ | ⟨b1, H⟩
     ·have e1 := beq_iff_eq.mpr b1; have e2 := bne_eq_false_iff_eq.mpr b1; clear b1; have H' := zA H; clear H; have a2 : 0 ≤ (a1 : Int) := zD; have a3 : a1 < (a0.size : Int) := zD; have b7 := bt_at a0 a1; replace a2 := eq_true a2; replace a3 := eq_true a3
      go_wp2_with (first | ((with_reducible refine zq 108 ?_); refine zg (some 13) Tryz.func108 #[.int .u8 (bt a0 a1)] ?_; (with_reducible refine (spec_l1Digit.calls (bt a0 a1) false _ b2.out).mono ?_); rintro e w' ⟨rfl, ⟨nd, rfl⟩⟩; refine ⟨_, rfl, ?_⟩; have a4 : 0 ≤ (a1 : Int) := zD; have a5 : a1 < (a0.size : Int) := zD; have c2 := bt_at a0 a1; replace a4 := eq_true a4; replace a5 := eq_true a5) | (go_at_call 107; (with_reducible refine (spec_l1Small.calls (bt a0 a1) false _ b8.out).mono ?_); rintro e w' ⟨rfl, ⟨nd, rfl⟩⟩; have a8 : 0 ≤ (a1 : Int) := zD; have a9 : a1 < (a0.size : Int) := zD; have d6 := bt_at a0 a1; replace a8 := eq_true a8; replace a9 := eq_true a9) | (go_at_call 104; (with_reducible refine (spec_l1In.calls (wrap64 (bt a0 a1)) 65 90 false _ c4.out).mono ?_); rintro e w' ⟨rfl, ⟨nd, rfl⟩⟩; have b3 : 0 ≤ (a1 : Int) := zD; have b4 : a1 < (a0.size : Int) := zD; have e3 := bt_at a0 a1; replace b3 := eq_true b3; replace b4 := eq_true b4))
      go_roundg b6
      case measure => have := a6.out; have := a7.out; omega
      case rel => exact ⟨(wrap64 (a1 + 1)), zS, H', ⟨by have := a6.out; have := a7.out; omega⟩, by repeat (first | exact Drawn0.refl _ | apply Drawn0.step)⟩
     have e1 := beq_eq_false_iff_ne.mpr b1; have e2 := bne_iff_ne.mpr b1; obtain rfl := zm H; have a2 : 0 ≤ (a1 : Int) := zD; have a3 : a1 < (a0.size : Int) := zD; have b7 := bt_at a0 a1; replace a2 := eq_true a2; replace a3 := eq_true a3
     go_wp2_with (first | ((with_reducible refine zq 108 ?_); refine zg (some 13) Tryz.func108 #[.int .u8 (bt a0 a1)] ?_; (with_reducible refine (spec_l1Digit.calls (bt a0 a1) false _ b2.out).mono ?_); rintro e w' ⟨rfl, ⟨nd, rfl⟩⟩; refine ⟨_, rfl, ?_⟩; have a4 : 0 ≤ (a1 : Int) := zD; have a5 : a1 < (a0.size : Int) := zD; have c2 := bt_at a0 a1; replace a4 := eq_true a4; replace a5 := eq_true a5) | (go_at_call 107; (with_reducible refine (spec_l1Small.calls (bt a0 a1) false _ b8.out).mono ?_); rintro e w' ⟨rfl, ⟨nd, rfl⟩⟩; have a8 : 0 ≤ (a1 : Int) := zD; have a9 : a1 < (a0.size : Int) := zD; have d6 := bt_at a0 a1; replace a8 := eq_true a8; replace a9 := eq_true a9) | (go_at_call 104; (with_reducible refine (spec_l1In.calls (wrap64 (bt a0 a1)) 65 90 false _ c4.out).mono ?_); rintro e w' ⟨rfl, ⟨nd, rfl⟩⟩; have b3 : 0 ≤ (a1 : Int) := zD; have b4 : a1 < (a0.size : Int) := zD; have e3 := bt_at a0 a1; replace b3 := eq_true b3; replace b4 := eq_true b4))
     go_ret
     exact ⟨by first | rfl | (simp; done) | (simp [*]; done) | (simp; rw [Bool.eq_iff_iff]; simp; done), by repeat (first | exact Drawn0.refl _ | apply Drawn0.step)⟩
/-! ### spec_VerOk: function 68 -/
def spec_VerOk.l0 : Nat → Int → Int → Int → Int → List ByteArray → Option (Bool)
 | 0, _, _, _, _, _ => none
 | k + 1, x3, a1, a2, a3, a0 => if x3 < (a0.length : Int) then (if 0 ≤ x3 then ((spec_l3Part.f k (rdOf ByteArray.empty a0 x3)).bind fun a4 => (if a4 = true then (spec_VerOk.l0 k (wrap64 (x3 + 1)) a1 a2 a3 a0) else (some false))) else (none)) else ((spec_l1In.f a1 0 9999).bind fun a5 => (if a5 = true then ((spec_l1In.f a2 0 9999).bind fun a6 => (if a6 = true then ((spec_l1In.f a3 0 9999).bind fun a7 => (if a7 = true then (some (decide ((a0.length : Int) ≤ 3))) else (some false))) else (some false))) else (some false)))
def spec_VerOk.f (k : Nat) (a0 a1 a2 : Int) (a3 : List ByteArray) : Option (Bool) := spec_VerOk.l0 k 0 a0 a1 a2 a3
theorem spec_VerOk.calls (k : Nat) (a2 a4 a5 : Int) (a9 : Option Addr) (b0 : Nat) (a0 : List ByteArray) (r : Bool) (w : World) (b3 : Kd.C Kd.string w a9 a0.length a0) (b4 : a0.length ≤ b0) (h : spec_VerOk.f k a2 a4 a5 a0 = some r) :
  Calls Tryz.prog 68 #[.agg #[.int .i64 a2, .int .i64 a4, .int .i64 a5, .slice a9 a0.length b0]] w fun e w' => e = .returned (.bool r) ∧ Below w.heap.size w w' := by
 have c5 := Tryz.underlying32
 have b5 := zA b3
 have c6 := zA b4
 clear b3 b4
 have HB := zA (Below.refl w.heap.size w)
 unfold spec_VerOk.f at h
 have H := h
 clear h
 have H' := zA H
 clear H
 go_enter Tryz.func68, Tryz.ntmps68
 go_wp2_with (first | ((with_reducible refine gate_dst (N := 1) rfl ?_); (try (refine gate_guard (by rfl) ?_; dsimp only)); refine box_event ?hg (N := 1) ?hd (cs := #[.int .i64 a2, .int .i64 a4, .int .i64 a5, .slice a9 a0.length b0]) (t := 32) ?hr ?_; (case hd => rfl); (case hg => rfl); (case hr => first | (go_simp; done) | (go_simp; rfl)); intro c2 hg w2 hbox hb; have a3 := zA (hbox); have c7 := zi HB hg; have c8 := zi HB hg; replace HB := zA (below_step (zB) hb); clear hb hbox hg))
 go_loopg [3] k (fun kq v3 w' => ∃ (a1 : Int), v3 = .int .i64 a1 ∧ Aside0 (spec_VerOk.l0 kq a1 a2 a4 a5 a0 = some r) ∧ Aside0 (kq ≤ k) ∧ Aside0 (w'.heap[c2]? = some (.cells #[.int .i64 a2, .int .i64 a4, .int .i64 a5, (.slice a9 a0.length b0)] 32 (0, 0))) ∧ Aside0 (Below w.heap.size w w'))
 case atStart => exact ⟨(0), zS, H', ⟨Nat.le_refl _⟩, ⟨zK a3.out⟩, ⟨zW HB.out⟩⟩
 case round =>
  clear H'
  try clear p2
  obtain ⟨a1, rfl, HA, b6, a3, HB⟩ := hrel
  cases gk with
  | zero => exact absurd HA.out (by simp [spec_VerOk.l0])
  | succ k1 =>
   have H := HA.out; clear HA; simp only [spec_VerOk.l0] at H; replace H := zI0 H
   rcases H with ⟨c3, H⟩ | ⟨c3, H⟩
   ·replace H := zD0 H; obtain ⟨c9, H⟩ := H; replace H := Option.bind_eq_some_iff.mp H; obtain ⟨d0, b7, H⟩ := H
    try dsimp only at H
    have A5 := zA b7; clear b7; replace H := zB0 H
    rcases H with ⟨rfl, H⟩ | ⟨rfl, H⟩
    ·have H' := zA H; clear H; obtain ⟨d1, d2, d3, d4, d5, d6, d7, d8⟩ := ze4 a3.out; have a6 : 0 ≤ (a1 : Int) := zD; have a7 : a1 < (a0.length : Int) := zD; obtain ⟨c4, b1, a8⟩ := Kd.at_string b5.out a1 a6 a7; cases b1; replace a8 := zx HB a8; replace a6 := eq_true a6; replace a7 := eq_true a7
     go_wp2_with (first | ((with_reducible refine zq 119 ?_); refine zg (some 16) Tryz.func119 #[.string (rdOf ByteArray.empty a0 a1)] ?_; (with_reducible refine (spec_l3Part.calls k1 (rdOf ByteArray.empty a0 a1) true _ A5.out).mono ?_); rintro e w' ⟨rfl, ⟨nd, rfl⟩⟩; refine ⟨_, rfl, ?_⟩))
     go_roundg k1
     case measure => have := b6.out; omega
     case rel => exact ⟨(wrap64 (a1 + 1)), zS, H', ⟨by have := b6.out; omega⟩, ⟨zK a3.out⟩, ⟨zW HB.out⟩⟩
    obtain rfl := zm H; obtain ⟨d9, e0, e1, e2, e3, e4, e5, e6⟩ := ze4 a3.out; have a6 : 0 ≤ (a1 : Int) := zD; have a7 : a1 < (a0.length : Int) := zD; obtain ⟨c4, b1, a8⟩ := Kd.at_string b5.out a1 a6 a7; cases b1; replace a8 := zx HB a8; replace a6 := eq_true a6; replace a7 := eq_true a7
    go_wp2_with (first | ((with_reducible refine zq 119 ?_); refine zg (some 16) Tryz.func119 #[.string (rdOf ByteArray.empty a0 a1)] ?_; (with_reducible refine (spec_l3Part.calls k1 (rdOf ByteArray.empty a0 a1) false _ A5.out).mono ?_); rintro e w' ⟨rfl, ⟨nd, rfl⟩⟩; refine ⟨_, rfl, ?_⟩))
    go_ret
    exact ⟨zE, zW HB.out⟩
   replace H := Option.bind_eq_some_iff.mp H; obtain ⟨e7, b8, H⟩ := H
   try dsimp only at H
   have A9 := zA b8; clear b8; replace H := zB0 H
   rcases H with ⟨rfl, H⟩ | ⟨rfl, H⟩
   ·replace H := Option.bind_eq_some_iff.mp H; obtain ⟨e8, b9, H⟩ := H
    try dsimp only at H
    have b2 := zA b9; clear b9; replace H := zB0 H
    rcases H with ⟨rfl, H⟩ | ⟨rfl, H⟩
    ·replace H := Option.bind_eq_some_iff.mp H; obtain ⟨e9, c0, H⟩ := H
     try dsimp only at H
     have c1 := zA c0; clear c0; replace H := zB0 H
     rcases H with ⟨rfl, H⟩ | ⟨rfl, H⟩
     ·obtain rfl := zm H; obtain ⟨f0, f1, f2, f3, f4, f5, f6, f7⟩ := ze4 a3.out
      go_wp2_with (first | ((with_reducible refine zq 104 ?_); refine zg (some 20) Tryz.func104 #[.int .i64 a2, .int .i64 0, .int .i64 9999] ?_; (with_reducible refine (spec_l1In.calls a2 0 9999 true _ A9.out).mono ?_); rintro e w' ⟨rfl, ⟨nd, rfl⟩⟩; refine ⟨_, rfl, ?_⟩) | (go_at_call 104; (with_reducible refine (spec_l1In.calls a4 0 9999 true _ b2.out).mono ?_); rintro e w' ⟨rfl, ⟨nd, rfl⟩⟩) | (go_at_call 104; (with_reducible refine (spec_l1In.calls a5 0 9999 true _ c1.out).mono ?_); rintro e w' ⟨rfl, ⟨nd, rfl⟩⟩))
      go_ret
      exact ⟨zE, zW HB.out⟩
     obtain rfl := zm H; obtain ⟨f8, f9, g0, g1, g2, g3, g4, g5⟩ := ze4 a3.out
     go_wp2_with (first | ((with_reducible refine zq 104 ?_); refine zg (some 20) Tryz.func104 #[.int .i64 a2, .int .i64 0, .int .i64 9999] ?_; (with_reducible refine (spec_l1In.calls a2 0 9999 true _ A9.out).mono ?_); rintro e w' ⟨rfl, ⟨nd, rfl⟩⟩; refine ⟨_, rfl, ?_⟩) | (go_at_call 104; (with_reducible refine (spec_l1In.calls a4 0 9999 true _ b2.out).mono ?_); rintro e w' ⟨rfl, ⟨nd, rfl⟩⟩) | (go_at_call 104; (with_reducible refine (spec_l1In.calls a5 0 9999 false _ c1.out).mono ?_); rintro e w' ⟨rfl, ⟨nd, rfl⟩⟩))
     go_ret
     exact ⟨zE, zW HB.out⟩
    obtain rfl := zm H; obtain ⟨g6, g7, g8, g9, h0, h1, h2, h3⟩ := ze4 a3.out
    go_wp2_with (first | ((with_reducible refine zq 104 ?_); refine zg (some 20) Tryz.func104 #[.int .i64 a2, .int .i64 0, .int .i64 9999] ?_; (with_reducible refine (spec_l1In.calls a2 0 9999 true _ A9.out).mono ?_); rintro e w' ⟨rfl, ⟨nd, rfl⟩⟩; refine ⟨_, rfl, ?_⟩) | (go_at_call 104; (with_reducible refine (spec_l1In.calls a4 0 9999 false _ b2.out).mono ?_); rintro e w' ⟨rfl, ⟨nd, rfl⟩⟩))
    go_ret
    exact ⟨zE, zW HB.out⟩
   obtain rfl := zm H; obtain ⟨h4, h5, h6, h7, h8, h9, i0, i1⟩ := ze4 a3.out
   go_wp2_with (first | ((with_reducible refine zq 104 ?_); refine zg (some 20) Tryz.func104 #[.int .i64 a2, .int .i64 0, .int .i64 9999] ?_; (with_reducible refine (spec_l1In.calls a2 0 9999 false _ A9.out).mono ?_); rintro e w' ⟨rfl, ⟨nd, rfl⟩⟩; refine ⟨_, rfl, ?_⟩))
   go_ret
   exact ⟨zE, zW HB.out⟩
/-! ### spec_Split: function 78 -/
def spec_Split.l0 : Nat → ByteArray → Int → List ByteArray → Int → Int → Option (List ByteArray)
 | 0, _, _, _, _, _ => none
 | k + 1, x0, x1, x5, x6, x7 => if x7 ≤ (x0.size : Int) then (if x7 = (x0.size : Int) then (if 0 ≤ x6 then (if x6 ≤ x7 then (if x5.length < 8796093022208 then (spec_Split.l0 k x0 x1 (x5 ++ [x0.extract (x6 : Int).toNat (x7 : Int).toNat]) (wrap64 (x7 + 1)) (wrap64 (x7 + 1))) else (none)) else (none)) else (none)) else (if 0 ≤ x7 then (if x7 < (x0.size : Int) then (if (bt x0 x7) = x1 then (if 0 ≤ x6 then (if x6 ≤ x7 then (if x5.length < 8796093022208 then (spec_Split.l0 k x0 x1 (x5 ++ [x0.extract (x6 : Int).toNat (x7 : Int).toNat]) (wrap64 (x7 + 1)) (wrap64 (x7 + 1))) else (none)) else (none)) else (none)) else (spec_Split.l0 k x0 x1 x5 x6 (wrap64 (x7 + 1)))) else (none)) else (none))) else (some x5)
def spec_Split.f (k : Nat) (a0 : ByteArray) (a1 : Int) : Option (List ByteArray) := spec_Split.l0 k a0 a1 (([] : List ByteArray)) 0 0
theorem spec_Split.calls (k : Nat) (a0 : ByteArray) (a1 : Int) (r : List ByteArray) (w : World) (h : spec_Split.f k a0 a1 = some r) :
  Calls Tryz.prog 78 #[.string a0, .int .u8 a1] w fun e w' => ∃ b6 : Value, e = .returned (b6) ∧ Kd.R Kd.string 9 w' w.heap.size (fun _ => True) b6 r ∧ Below w.heap.size w w' := by
 have HB := zA (Below.refl w.heap.size w)
 unfold spec_Split.f at h
 have H := h
 clear h
 obtain ⟨b7, b1⟩ : ∃ y_ : List ByteArray, y_ = (([] : List ByteArray)) := ⟨_, rfl⟩
 replace H : (spec_Split.l0 k a0 a1 b7 0 0) = some r := zY b1 H
 have b8 := zA b1
 clear b1
 have H' := zA H
 clear H
 go_enter Tryz.func78, Tryz.ntmps78
 go_wp2_with (first | ((with_reducible refine gate_dst (N := 8) rfl ?_); refine Kd.R_lit Kd.string _ 9 ?hg (N := 8) ?hd (xs := ([] : List ByteArray)) (inner := []) (ok := fun _ => True) ?hr ?hp (fun _ hk => hk) trivial (Below.refl _ _) (Nat.le_refl _) (by simp) ?_; (case hd => rfl); (case hg => rfl); (case hr => first | (go_simp; done) | (go_simp; rfl)); (case hp => exact (Reps.none _ _)); intro d9 w3 a8 hb hg_ hnew_; clear hg_ hnew_; (first | rw [← b8.out] at a8 | (simp only [Int.reduceToNat] at a8; rw [← b8.out] at a8)); have c3 := zA (Kd.R_lower a8 (below_size (zB))); replace HB := zA (below_step (zB) hb); clear hb a8))
 go_loopg [5, 6, 7] k (fun kq v5 v6 v7 w' => ∃ (a4 : List ByteArray) (a3 : Int) (a2 : Int), v6 = .int .i64 a3 ∧ v7 = .int .i64 a2 ∧ Aside0 (spec_Split.l0 kq a0 a1 a4 a3 a2 = some r) ∧ Aside0 (kq ≤ k) ∧ Aside0 (Kd.R Kd.string 9 w' w.heap.size (fun _ => True) v5 a4) ∧ Aside0 (Below w.heap.size w w'))
 case atStart => exact ⟨(b7), (0), (0), zS, zS, H', ⟨Nat.le_refl _⟩, ⟨zR c3.out⟩, ⟨zB⟩⟩
 case round =>
  clear H'
  try clear p2
  obtain ⟨a4, a3, a2, rfl, rfl, HA, a5, a6, HB⟩ := hrel
  cases gk with
  | zero => exact absurd HA.out (by simp [spec_Split.l0])
  | succ k1 =>
   have H := HA.out; clear HA; simp only [spec_Split.l0] at H; replace H := zI0 H
   rcases H with ⟨c4, H⟩ | ⟨c4, H⟩
   ·replace H := zI1 H
    rcases H with ⟨c6, H⟩ | ⟨c6, H⟩
    ·have c5 := beq_iff_eq.mpr c6; have c9 := bne_eq_false_iff_eq.mpr c6; clear c6; replace H := zC0 H; obtain ⟨c7, H⟩ := H; have e0 := eq_true c7; have e1 := decide_eq_true c7; clear c7; replace H := zC0 H; obtain ⟨c8, H⟩ := H; have e2 := eq_true c8; have e3 := decide_eq_true c8; clear c8; have e4 := eq_true (zD : a2 ≤ (a0.size : Int)); replace H := zC0 H; obtain ⟨b9, H⟩ := H; have d0 := zA b9; clear b9; obtain ⟨c0, b2⟩ : ∃ y_ : List ByteArray, y_ = (a4 ++ [a0.extract (a3 : Int).toNat (a2 : Int).toNat]) := ⟨_, rfl⟩; replace H : (spec_Split.l0 k1 a0 a1 c0 (wrap64 (a2 + 1)) (wrap64 (a2 + 1))) = some r := zY b2 H; have d1 := zA b2; clear b2; have H' := zA H; clear H
     go_wp2_with (first | ((with_reducible refine gate_builtin (b := .append) (xs := #[.tmp 26, .tmp 31]) rfl ?_); at_builtin; refine Kd.R_append Kd.string (w0 := w) w.heap.size rfl (.tmp 26) (.tmp 31) 24 9 (.string ⟨#[]⟩) 16 rfl Tryz.underlying24 info9 rfl (by decide) (by omega) u5 a4 (a0.extract (a3 : Int).toNat (a2 : Int).toNat) [.string (a0.extract (a3 : Int).toNat (a2 : Int).toNat)] (fun _ => True) (fun _ => False) rfl rfl ?aP (fun _ hk => hk.elim) ?aF ?aO ?aB ?aS ?aL ?_; (case aP => exact rfl); (case aB => exact (zB)); (case aF => exact (fun _ _ => trivial)); (case aO => exact (zR a6.out)); (case aS => exact (below_size (zB))); (case aL => have := d0.out; omega); intro e5 e6 ho hb hg hat; rw [← d1.out] at ho; replace HB := zA (hb); have d2 := zA (ho); clear a6; clear ho hb hg hat))
     go_roundg k1
     case measure => have := a5.out; omega
     case rel => exact ⟨(c0), (wrap64 (a2 + 1)), (wrap64 (a2 + 1)), zS, zS, H', ⟨by have := a5.out; omega⟩, ⟨zR d2.out⟩, ⟨zB⟩⟩
    have c5 := beq_eq_false_iff_ne.mpr c6; have c9 := bne_iff_ne.mpr c6; replace H := zD0 H; obtain ⟨e7, H⟩ := H; replace H := zD0 H; obtain ⟨e8, H⟩ := H; replace H := zI1 H
    rcases H with ⟨a7, H⟩ | ⟨a7, H⟩
    ·have d3 := beq_iff_eq.mpr a7; have d4 := bne_eq_false_iff_eq.mpr a7; clear a7; replace H := zC0 H; obtain ⟨b3, H⟩ := H; have e9 := eq_true b3; have f0 := decide_eq_true b3; clear b3; replace H := zC0 H; obtain ⟨b4, H⟩ := H; have f1 := eq_true b4; have f2 := decide_eq_true b4; clear b4; have f3 := eq_true (zD : a2 ≤ (a0.size : Int)); replace H := zC0 H; obtain ⟨c1, H⟩ := H; have d5 := zA c1; clear c1; obtain ⟨c2, b5⟩ : ∃ y_ : List ByteArray, y_ = (a4 ++ [a0.extract (a3 : Int).toNat (a2 : Int).toNat]) := ⟨_, rfl⟩; replace H : (spec_Split.l0 k1 a0 a1 c2 (wrap64 (a2 + 1)) (wrap64 (a2 + 1))) = some r := zY b5 H; have d6 := zA b5; clear b5; have H' := zA H; clear H; have a9 : 0 ≤ (a2 : Int) := zD; have b0 : a2 < (a0.size : Int) := zD; have d7 := bt_at a0 a2; replace a9 := eq_true a9; replace b0 := eq_true b0
     go_wp2_with (first | ((with_reducible refine gate_builtin (b := .append) (xs := #[.tmp 26, .tmp 31]) rfl ?_); at_builtin; refine Kd.R_append Kd.string (w0 := w) w.heap.size rfl (.tmp 26) (.tmp 31) 24 9 (.string ⟨#[]⟩) 16 rfl Tryz.underlying24 info9 rfl (by decide) (by omega) u5 a4 (a0.extract (a3 : Int).toNat (a2 : Int).toNat) [.string (a0.extract (a3 : Int).toNat (a2 : Int).toNat)] (fun _ => True) (fun _ => False) rfl rfl ?aP (fun _ hk => hk.elim) ?aF ?aO ?aB ?aS ?aL ?_; (case aP => exact rfl); (case aB => exact (zB)); (case aF => exact (fun _ _ => trivial)); (case aO => exact (zR a6.out)); (case aS => exact (below_size (zB))); (case aL => have := d5.out; omega); intro f4 f5 ho hb hg hat; rw [← d6.out] at ho; replace HB := zA (hb); have d8 := zA (ho); clear a6; clear ho hb hg hat))
     go_roundg k1
     case measure => have := a5.out; omega
     case rel => exact ⟨(c2), (wrap64 (a2 + 1)), (wrap64 (a2 + 1)), zS, zS, H', ⟨by have := a5.out; omega⟩, ⟨zR d8.out⟩, ⟨zB⟩⟩
    have d3 := beq_eq_false_iff_ne.mpr a7; have d4 := bne_iff_ne.mpr a7; have H' := zA H; clear H; have a9 : 0 ≤ (a2 : Int) := zD; have b0 : a2 < (a0.size : Int) := zD; have d7 := bt_at a0 a2; replace a9 := eq_true a9; replace b0 := eq_true b0
    go_wp2
    go_roundg k1
    case measure => have := a5.out; omega
    case rel => exact ⟨(a4), (a3), (wrap64 (a2 + 1)), zS, zS, H', ⟨by have := a5.out; omega⟩, ⟨zR a6.out⟩, ⟨zB⟩⟩
   obtain rfl := zm H
   go_wp2
   go_ret
   exact ⟨_, zE, zR a6.out, zB⟩
/-! ### spec_ParseNum: function 152 -/
mutual
def spec_ParseNum.l0 : Nat → ByteArray → Int → Int → Int → Option (Int × Bool)
 | 0, _, _, _, _ => none
 | k + 1, x0, x1, x6, x7 => if x7 < (x0.size : Int) then (spec_ParseNum.j1 k x0 x1 x6 x7 (decide (x7 < 8))) else (spec_ParseNum.j1 k x0 x1 x6 x7 false)
def spec_ParseNum.j1 : Nat → ByteArray → Int → Int → Int → Bool → Option (Int × Bool)
 | 0, _, _, _, _, _ => none
 | k + 1, x0, x1, x6, x7, a0 => if a0 = true then (if 0 ≤ x7 then (if x7 < (x0.size : Int) then ((spec_l1Digit.f (bt x0 x7)).bind fun a1 => (if a1 = true then (spec_ParseNum.l0 k x0 x1 (wrap64 ((wrap64 (x6 * 10)) + (((bt x0 x7) - 48) % 256))) (wrap64 (x7 + 1))) else (some (0, false)))) else (none)) else (none)) else ((spec_l1In.f (x0.size : Int) 1 7).bind fun a2 => (if a2 = true then (if (x0.size : Int) > 1 then (if 0 < (x0.size : Int) then (if (bt x0 0) = 48 then (some (0, false)) else (if x6 > x1 then (some (0, false)) else (some (x6, true)))) else (none)) else (if x6 > x1 then (some (0, false)) else (some (x6, true)))) else (some (0, false))))
end
def spec_ParseNum.f (k : Nat) (a0 : ByteArray) (a1 : Int) : Option (Int × Bool) := spec_ParseNum.l0 k a0 a1 0 0
theorem spec_ParseNum.calls (k : Nat) (a0 : ByteArray) (a1 r1 : Int) (r2 : Bool) (w : World) (h : spec_ParseNum.f k a0 a1 = some (r1, r2)) :
  Calls Tryz.prog 152 #[.string a0, .int .i64 a1] w fun e w' => e = .returned (.tuple #[.int .i64 r1, .bool r2]) ∧ Drawn0 w w' := by
 unfold spec_ParseNum.f at h
 have H := h
 clear h
 have H' := zA H
 clear H
 go_enter Tryz.func152, Tryz.ntmps152
 go_wp2
 go_loopg [6, 7] k (fun kq v6 v7 w' => ∃ (a3 : Int) (a2 : Int), v6 = .int .i64 a3 ∧ v7 = .int .i64 a2 ∧ Aside0 (spec_ParseNum.l0 kq a0 a1 a3 a2 = some (r1, r2)) ∧ Aside0 (kq ≤ k) ∧ Drawn0 w w')
 case atStart => exact ⟨(0), (0), zS, zS, H', ⟨Nat.le_refl _⟩, by repeat (first | exact Drawn0.refl _ | apply Drawn0.step)⟩
 case round =>
  clear H'
  try clear c1
  try clear p2
  obtain ⟨a3, a2, rfl, rfl, HA, b2, ⟨m1, rfl⟩⟩ := hrel
  cases gk with
  | zero => exact absurd HA.out (by simp [spec_ParseNum.l0])
  | succ k1 =>
   have H := HA.out; clear HA; simp only [spec_ParseNum.l0] at H; have b3 := zA H; clear H
   go_upto_region 3 with (fail)
   go_cut [15] (fun c5 wc => ∃ (kq : Nat) (b4 : Bool), c5 = .bool b4 ∧ Aside0 (spec_ParseNum.j1 kq a0 a1 a3 a2 b4 = some (r1, r2)) ∧ Aside0 (kq ≤ k1) ∧ Drawn0 w wc)
   case first =>
    have H := b3.out; clear b3; replace H := zI0 H
    rcases H with ⟨a5, H⟩ | ⟨a5, H⟩
    ·(first | rw [a5] | (simp only [i64_w, i32_w]; rw [a5]) | skip)
     have H' := zA H; clear H
     go_wp2
     go_meet
     case rel => exact ⟨_, (decide (a2 < 8)), zS, (by first | exact H' | (subst_vars; exact H')), ⟨by have := b2.out; first | omega | exact Nat.le_refl _⟩, by repeat (first | exact Drawn0.refl _ | apply Drawn0.step)⟩
    (first | rw [a5] | (simp only [i64_w, i32_w]; rw [a5]) | skip)
    have H' := zA H; clear H
    go_wp2
    go_meet
    case rel => exact ⟨_, (false), zS, (by first | exact H' | (subst_vars; exact H')), ⟨by have := b2.out; first | omega | exact Nat.le_refl _⟩, by repeat (first | exact Drawn0.refl _ | apply Drawn0.step)⟩
   case rest =>
    clear b3
    try clear c1
    try clear p2
    try clear c4
    try clear a5
    try clear p2
    obtain ⟨kq, b4, rfl, HA, b5, ⟨d4, rfl⟩⟩ := hcut
    cases kq with
    | zero => exact absurd HA.out (by simp [spec_ParseNum.j1])
    | succ c6 =>
     have H := HA.out; clear HA; simp only [spec_ParseNum.j1] at H; replace H := zB0 H
     rcases H with ⟨rfl, H⟩ | ⟨rfl, H⟩
     ·replace H := zD0 H; obtain ⟨d5, H⟩ := H; replace H := zD0 H; obtain ⟨d6, H⟩ := H; replace H := Option.bind_eq_some_iff.mp H; obtain ⟨d7, b6, H⟩ := H
      try dsimp only at H
      have A9 := zA b6; clear b6; replace H := zB0 H
      rcases H with ⟨rfl, H⟩ | ⟨rfl, H⟩
      ·have H' := zA H; clear H; have p8 : 0 ≤ (a2 : Int) := zD; have q8 : a2 < (a0.size : Int) := zD; have c7 := bt_at a0 a2; replace p8 := eq_true p8; replace q8 := eq_true q8
       go_wp2_with (first | ((with_reducible refine zq 108 ?_); refine zg (some 21) Tryz.func108 #[.int .u8 (bt a0 a2)] ?_; (with_reducible refine (spec_l1Digit.calls (bt a0 a2) true _ A9.out).mono ?_); rintro e w' ⟨rfl, ⟨nd, rfl⟩⟩; refine ⟨_, rfl, ?_⟩; have b7 : 0 ≤ (a2 : Int) := zD; have b8 : a2 < (a0.size : Int) := zD; have d8 := bt_at a0 a2; replace b7 := eq_true b7; replace b8 := eq_true b8))
       go_roundg c6
       case measure => have := b2.out; have := b5.out; omega
       case rel => exact ⟨(wrap64 ((wrap64 (a3 * 10)) + (((bt a0 a2) - 48) % 256))), (wrap64 (a2 + 1)), zS, zS, H', ⟨by have := b2.out; have := b5.out; omega⟩, by repeat (first | exact Drawn0.refl _ | apply Drawn0.step)⟩
      simp only [zU] at H; obtain ⟨rfl, rfl⟩ := H; have p8 : 0 ≤ (a2 : Int) := zD; have q8 : a2 < (a0.size : Int) := zD; have c7 := bt_at a0 a2; replace p8 := eq_true p8; replace q8 := eq_true q8
      go_wp2_with (first | ((with_reducible refine zq 108 ?_); refine zg (some 21) Tryz.func108 #[.int .u8 (bt a0 a2)] ?_; (with_reducible refine (spec_l1Digit.calls (bt a0 a2) false _ A9.out).mono ?_); rintro e w' ⟨rfl, ⟨nd, rfl⟩⟩; refine ⟨_, rfl, ?_⟩))
      go_ret2
      exact ⟨by first | rfl | (simp; done) | (simp [*]; done) | (simp; rw [Bool.eq_iff_iff]; simp; done), by repeat (first | exact Drawn0.refl _ | apply Drawn0.step)⟩
     replace H := Option.bind_eq_some_iff.mp H; obtain ⟨d9, b9, H⟩ := H
     try dsimp only at H
     have a6 := zA b9; clear b9; replace H := zB0 H
     rcases H with ⟨rfl, H⟩ | ⟨rfl, H⟩
     ·replace H := zI1 H
      rcases H with ⟨a8, H⟩ | ⟨a8, H⟩
      ·have c8 : decide (1 < (a0.size : Int)) = true := decide_eq_true a8; have c9 : decide (1 < a0.size) = true := decide_eq_true (by omega); clear a8; replace H := zC0 H; obtain ⟨c0, H⟩ := H; have e0 := decide_eq_true c0; have e1 : decide (0 < a0.size) = true := decide_eq_true (by omega); clear c0; replace H := zI1 H
       rcases H with ⟨a7, H⟩ | ⟨a7, H⟩
       ·have d0 := beq_iff_eq.mpr a7; have d1 := bne_eq_false_iff_eq.mpr a7; clear a7; simp only [zU] at H; obtain ⟨rfl, rfl⟩ := H
        go_wp2_with (first | ((with_reducible refine zq 104 ?_); refine zg (some 33) Tryz.func104 #[.int .i64 (a0.size : Int), .int .i64 1, .int .i64 7] ?_; (with_reducible refine (spec_l1In.calls (a0.size : Int) 1 7 true _ a6.out).mono ?_); rintro e w' ⟨rfl, ⟨nd, rfl⟩⟩; refine ⟨_, rfl, ?_⟩; have a9 : 0 ≤ (0 : Int) := (by omega); have a4 : 0 < a0.size := (by have : (0 : Int) < (a0.size : Int) := zD; omega); have c2 : ∀ h : 0 < a0.size, ((a0[0]'h).toNat : Int) = bt a0 0 := bt_at a0 0; clear a9; have c3 : (0 < (a0.size : Int)) = True := eq_true (zD); replace a4 := eq_true a4))
        go_ret2
        exact ⟨by first | rfl | (simp; done) | (simp [*]; done) | (simp; rw [Bool.eq_iff_iff]; simp; done), by repeat (first | exact Drawn0.refl _ | apply Drawn0.step)⟩
       have d0 := beq_eq_false_iff_ne.mpr a7; have d1 := bne_iff_ne.mpr a7; replace H := zI1 H
       rcases H with ⟨b0, H⟩ | ⟨b0, H⟩
       ·have d2 : decide (a1 < a3) = true := decide_eq_true b0; clear b0; simp only [zU] at H; obtain ⟨rfl, rfl⟩ := H
        go_wp2_with (first | ((with_reducible refine zq 104 ?_); refine zg (some 33) Tryz.func104 #[.int .i64 (a0.size : Int), .int .i64 1, .int .i64 7] ?_; (with_reducible refine (spec_l1In.calls (a0.size : Int) 1 7 true _ a6.out).mono ?_); rintro e w' ⟨rfl, ⟨nd, rfl⟩⟩; refine ⟨_, rfl, ?_⟩; have a9 : 0 ≤ (0 : Int) := (by omega); have a4 : 0 < a0.size := (by have : (0 : Int) < (a0.size : Int) := zD; omega); have c2 : ∀ h : 0 < a0.size, ((a0[0]'h).toNat : Int) = bt a0 0 := bt_at a0 0; clear a9; have c3 : (0 < (a0.size : Int)) = True := eq_true (zD); replace a4 := eq_true a4))
        go_ret2
        exact ⟨by first | rfl | (simp; done) | (simp [*]; done) | (simp; rw [Bool.eq_iff_iff]; simp; done), by repeat (first | exact Drawn0.refl _ | apply Drawn0.step)⟩
       have d2 : decide (a1 < a3) = false := decide_eq_false b0; clear b0; simp only [zU] at H; obtain ⟨rfl, rfl⟩ := H
       go_wp2_with (first | ((with_reducible refine zq 104 ?_); refine zg (some 33) Tryz.func104 #[.int .i64 (a0.size : Int), .int .i64 1, .int .i64 7] ?_; (with_reducible refine (spec_l1In.calls (a0.size : Int) 1 7 true _ a6.out).mono ?_); rintro e w' ⟨rfl, ⟨nd, rfl⟩⟩; refine ⟨_, rfl, ?_⟩; have a9 : 0 ≤ (0 : Int) := (by omega); have a4 : 0 < a0.size := (by have : (0 : Int) < (a0.size : Int) := zD; omega); have c2 : ∀ h : 0 < a0.size, ((a0[0]'h).toNat : Int) = bt a0 0 := bt_at a0 0; clear a9; have c3 : (0 < (a0.size : Int)) = True := eq_true (zD); replace a4 := eq_true a4))
       go_ret2
       exact ⟨by first | rfl | (simp; done) | (simp [*]; done) | (simp; rw [Bool.eq_iff_iff]; simp; done), by repeat (first | exact Drawn0.refl _ | apply Drawn0.step)⟩
      have c8 : decide (1 < (a0.size : Int)) = false := decide_eq_false a8; have c9 : decide (1 < a0.size) = false := decide_eq_false (by omega); clear a8; replace H := zI1 H
      rcases H with ⟨b1, H⟩ | ⟨b1, H⟩
      ·have d3 : decide (a1 < a3) = true := decide_eq_true b1; clear b1; simp only [zU] at H; obtain ⟨rfl, rfl⟩ := H
       go_wp2_with (first | ((with_reducible refine zq 104 ?_); refine zg (some 33) Tryz.func104 #[.int .i64 (a0.size : Int), .int .i64 1, .int .i64 7] ?_; (with_reducible refine (spec_l1In.calls (a0.size : Int) 1 7 true _ a6.out).mono ?_); rintro e w' ⟨rfl, ⟨nd, rfl⟩⟩; refine ⟨_, rfl, ?_⟩))
       go_ret2
       exact ⟨by first | rfl | (simp; done) | (simp [*]; done) | (simp; rw [Bool.eq_iff_iff]; simp; done), by repeat (first | exact Drawn0.refl _ | apply Drawn0.step)⟩
      have d3 : decide (a1 < a3) = false := decide_eq_false b1; clear b1; simp only [zU] at H; obtain ⟨rfl, rfl⟩ := H
      go_wp2_with (first | ((with_reducible refine zq 104 ?_); refine zg (some 33) Tryz.func104 #[.int .i64 (a0.size : Int), .int .i64 1, .int .i64 7] ?_; (with_reducible refine (spec_l1In.calls (a0.size : Int) 1 7 true _ a6.out).mono ?_); rintro e w' ⟨rfl, ⟨nd, rfl⟩⟩; refine ⟨_, rfl, ?_⟩))
      go_ret2
      exact ⟨by first | rfl | (simp; done) | (simp [*]; done) | (simp; rw [Bool.eq_iff_iff]; simp; done), by repeat (first | exact Drawn0.refl _ | apply Drawn0.step)⟩
     simp only [zU] at H; obtain ⟨rfl, rfl⟩ := H
     go_wp2_with (first | ((with_reducible refine zq 104 ?_); refine zg (some 33) Tryz.func104 #[.int .i64 (a0.size : Int), .int .i64 1, .int .i64 7] ?_; (with_reducible refine (spec_l1In.calls (a0.size : Int) 1 7 false _ a6.out).mono ?_); rintro e w' ⟨rfl, ⟨nd, rfl⟩⟩; refine ⟨_, rfl, ?_⟩))
     go_ret2
     exact ⟨by first | rfl | (simp; done) | (simp [*]; done) | (simp; rw [Bool.eq_iff_iff]; simp; done), by repeat (first | exact Drawn0.refl _ | apply Drawn0.step)⟩
end Go.Proofs.YtpcdhoeoefoeoaaGreatDoor.PGE
