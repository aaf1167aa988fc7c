/- The walks of the functions that these laws reach, and what each comes to: printed by this session's program. -/
import Derived.Test.YtbaeljcnbkeipaaZGCPGCx0
import Derived.Test.YtbaeljcnbkeipaaZGCSays
import Derived.Test.YtbaeljcnbkeipaaZGCRegs
namespace Go.Proofs.Ytbaeljcnbkeipaa.PGC
open Go.RowKit YtbaeljcnbkeipaaW.PrintWords YtbaeljcnbkeipaaW.PrintLast YtbaeljcnbkeipaaW.PrintMore
attribute [local go_sem high] Mine.str_gtr Mine.str_leq Mine.str_geq
attribute [local go_sem] max2_int min2_int max_two min_two max_three min_three max_four min_four   -- for this text's walks alone
set_option linter.unusedVariables false
set_option maxHeartbeats 8000000
set_option maxRecDepth 100000
set_option linter.unusedSimpArgs false
/-! ### laws_szStringS: function 37 -/
mutual
def laws_szStringS.j0 : Nat → List ByteArray → Int → Option (Int)
 | 0, _, _ => none
 | k + 1, x0, x1 => laws_szStringS.l0 k x0 x1 0
def laws_szStringS.l0 : Nat → List ByteArray → Int → Int → Option (Int)
 | 0, _, _, _ => none
 | k + 1, x0, x1, x5 => if x5 < (x0.length : Int) then (if 0 ≤ x5 then (if (wrap64 (x1 - ((rdOf ByteArray.empty x0 x5).size : Int))) < 0 then (some (-1)) else (laws_szStringS.l0 k x0 (wrap64 (x1 - ((rdOf ByteArray.empty x0 x5).size : Int))) (wrap64 (x5 + 1)))) else (none)) else (some x1)
end
def laws_szStringS.f (k : Nat) (l0 : List ByteArray) (a1 : Int) : Option (Int) := if (wrap64 (a1 - (l0.length : Int))) < 0 then (some (-1)) else (laws_szStringS.j0 k l0 (wrap64 (a1 - (l0.length : Int))))
theorem laws_szStringS.calls (k : Nat) (A0 : Option Addr) (c0 : Nat) (l0 : List ByteArray) (a1 r : Int) (w : World) (a8 : Kd.C Kd.string w A0 l0.length l0) (a9 : l0.length ≤ c0) (h : laws_szStringS.f k l0 a1 = some r) :
  Calls Try.prog 37 #[.slice A0 l0.length c0, .int .i64 a1] w fun e w' => e = .returned (.int .i64 r) ∧ Drawn0 w w' := by
 have b0 := zA a8
 have b8 := zA a9
 clear a8 a9
 unfold laws_szStringS.f at h
 have H := h
 clear h
 have a6 := zA H
 clear H
 go_enter Try.func37, Try.ntmps37
 go_upto_if 11 with (fail)
 go_cut [] (fun wc => ∃ (kq : Nat), Aside0 (laws_szStringS.j0 kq l0 (wrap64 (a1 - (l0.length : Int))) = some r) ∧ Aside0 (kq ≤ k) ∧ Drawn0 w wc)
 case first =>
  have H := a6.out; clear a6; replace H := zI0 H
  rcases H with ⟨a2, H⟩ | ⟨a2, H⟩
  ·(first | rw [a2] | (simp only [i64_w, i32_w]; rw [a2]) | skip)
   obtain rfl := zm H
   go_wp2
   go_ret
   exact ⟨by first | rfl | (simp; done) | (simp [*]; done) | (simp; rw [Bool.eq_iff_iff]; simp; done), by repeat (first | exact Drawn0.refl _ | apply Drawn0.step)⟩
  (first | rw [a2] | (simp only [i64_w, i32_w]; rw [a2]) | skip)
  have H' := zA H; clear H
  go_wp2
  go_meet
  case rel => exact ⟨_, (by first | exact H' | (subst_vars; exact H')), ⟨by first | omega | exact Nat.le_refl _⟩, by repeat (first | exact Drawn0.refl _ | apply Drawn0.step)⟩
 case rest =>
  clear a6
  try clear p2
  try clear c3
  try clear c4
  try clear a2
  obtain ⟨kq, HA, b1, ⟨b9, rfl⟩⟩ := hcut
  cases kq with
  | zero => exact absurd HA.out (by simp [laws_szStringS.j0])
  | succ b2 =>
   have H := HA.out; clear HA; simp only [laws_szStringS.j0] at H; have H' := zA H; clear H
   go_wp2
   go_loopg [1, 5] b2 (fun kq v1 v5 w' => ∃ (a5 : Int) (a0 : Int), v1 = .int .i64 a5 ∧ v5 = .int .i64 a0 ∧ Aside0 (laws_szStringS.l0 kq l0 a5 a0 = some r) ∧ Aside0 (kq ≤ b2) ∧ Drawn0 w w')
   case atStart => exact ⟨((wrap64 (a1 - (l0.length : Int)))), (0), zS, zS, H', ⟨Nat.le_refl _⟩, by repeat (first | exact Drawn0.refl _ | apply Drawn0.step)⟩
   case round =>
    clear H'
    try clear c2
    try clear p2
    try clear c3
    try clear c4
    try clear a2
    try clear p2
    obtain ⟨a5, a0, rfl, rfl, HA, b3, ⟨m2, rfl⟩⟩ := hrel
    cases gk with
    | zero => exact absurd HA.out (by simp [laws_szStringS.l0])
    | succ k2 =>
     have H := HA.out; clear HA; simp only [laws_szStringS.l0] at H; replace H := zI0 H
     rcases H with ⟨b4, H⟩ | ⟨b4, H⟩
     ·replace H := zD0 H; obtain ⟨c1, H⟩ := H; replace H := zI0 H
      rcases H with ⟨b5, H⟩ | ⟨b5, H⟩
      ·obtain rfl := zm H; have a3 : 0 ≤ (a0 : Int) := zD; have a4 : a0 < (l0.length : Int) := zD; obtain ⟨b6, a7, b7⟩ := Kd.at_string b0.out a0 a3 a4; cases a7; replace a3 := eq_true a3; replace a4 := eq_true a4
       go_wp2
       go_ret
       exact ⟨by first | rfl | (simp; done) | (simp [*]; done) | (simp; rw [Bool.eq_iff_iff]; simp; done), by repeat (first | exact Drawn0.refl _ | apply Drawn0.step)⟩
      have H' := zA H; clear H; have a3 : 0 ≤ (a0 : Int) := zD; have a4 : a0 < (l0.length : Int) := zD; obtain ⟨b6, a7, b7⟩ := Kd.at_string b0.out a0 a3 a4; cases a7; replace a3 := eq_true a3; replace a4 := eq_true a4
      go_wp2
      go_roundg k2
      case measure => have := b1.out; have := b3.out; omega
      case rel => exact ⟨(wrap64 (a5 - ((rdOf ByteArray.empty l0 a0).size : Int))), (wrap64 (a0 + 1)), zS, zS, H', ⟨by have := b1.out; have := b3.out; omega⟩, by repeat (first | exact Drawn0.refl _ | apply Drawn0.step)⟩
     obtain rfl := zm H
     go_wp2
     go_ret
     exact ⟨by first | rfl | (simp; done) | (simp [*]; done) | (simp; rw [Bool.eq_iff_iff]; simp; done), by repeat (first | exact Drawn0.refl _ | apply Drawn0.step)⟩
/-! ### laws_szVer: function 15 -/
def laws_szVer.f (k : Nat) (a3 a4 a5 : Int) (a2 : List ByteArray) (a1 : Int) : Option (Int) := (laws_szStringS.f k a2 a1).bind fun a0 => (if a0 < 0 then (some (-1)) else (some a0))
theorem laws_szVer.calls (k : Nat) (a4 a5 a6 : Int) (a2 : Option Addr) (a3 : Nat) (a0 : List ByteArray) (a1 r : Int) (w : World) (a8 : Kd.C Kd.string w a2 a0.length a0) (a9 : a0.length ≤ a3) (h : laws_szVer.f k a4 a5 a6 a0 a1 = some r) :
  Calls Try.prog 15 #[.agg #[.int .i64 a4, .int .i64 a5, .int .i64 a6, .slice a2 a0.length a3], .int .i64 a1] w fun e w' => e = .returned (.int .i64 r) ∧ Below w.heap.size w w' := by
 have b5 := Try.underlying38
 have b1 := zA a8
 have b2 := zA a9
 clear a8 a9
 have HB := zA (Below.refl w.heap.size w)
 unfold laws_szVer.f at h
 have H := h
 clear h
 replace H := Option.bind_eq_some_iff.mp H
 obtain ⟨b3, b0, H⟩ := H
 try dsimp only at H
 have A3 := zA b0
 clear b0
 go_enter Try.func15, Try.ntmps15
 go_upto_if 10 with (first | ((with_reducible refine zd 2 ?_); refine ze 2 38 #[.int .i64 a4, .int .i64 a5, .int .i64 a6, .slice a2 a0.length a3] ?_; intro b6 hg w5 hbox hb; have b4 := zA (hbox); have b7 := zi HB hg; have b8 := zi HB hg; replace HB := zA (below_step (zB) hb); clear hb hbox hg; obtain ⟨b9, c0, c1, c2, c3, c4, c5, c6⟩ := ze4 b4.out) | ((with_reducible refine zq 37 ?_); refine zg (some 8) Try.func37 #[.slice a2 a0.length a3, .int .i64 a1] ?_; (with_reducible refine (laws_szStringS.calls k _ _ a0 a1 b3 _ ?s1 ?s2 A3.out).mono ?_); (case s1 => exact zC (Kd.C_below b1.out HB.out)); (case s2 => exact b2.out); rintro e w' ⟨rfl, ⟨nd, rfl⟩⟩; refine ⟨_, rfl, ?_⟩))
 (try simp only [Act.put, zT])
 replace H := zI0 H
 rcases H with ⟨a7, H⟩ | ⟨a7, H⟩
 ·obtain rfl := zm H
  (try simp only [a7])
  go_wp2
  go_ret
  exact ⟨zE, zW HB.out⟩
 obtain rfl := zm H
 (try simp only [a7])
 go_wp2
 go_ret
 exact ⟨zE, zW HB.out⟩
/-! ### laws_szNeed: function 84 -/
def laws_szNeed.f (a0 a2 : ByteArray) (a1 : Int) : Option (Int) := if (wrap64 (a1 - (a0.size : Int))) < 0 then (some (-1)) else (if (wrap64 ((wrap64 (a1 - (a0.size : Int))) - (a2.size : Int))) < 0 then (some (-1)) else (some (wrap64 ((wrap64 (a1 - (a0.size : Int))) - (a2.size : Int)))))
theorem laws_szNeed.calls (a2 a3 : ByteArray) (a1 r : Int) (w : World) (h : laws_szNeed.f a2 a3 a1 = some r) :
  Calls Try.prog 84 #[.agg #[.string a2, .string a3], .int .i64 a1] w fun e w' => e = .returned (.int .i64 r) ∧ Below w.heap.size w w' := by
 have a6 := Try.underlying113
 have HB := zA (Below.refl w.heap.size w)
 unfold laws_szNeed.f at h
 have H := h
 clear h
 go_enter Try.func84, Try.ntmps84
 go_upto_if 11 with (first | ((with_reducible refine zd 2 ?_); refine ze 2 113 #[.string a2, .string a3] ?_; intro a7 hg w4 hbox hb; have a5 := zA (hbox); have a8 := zi HB hg; have a9 := zi HB hg; replace HB := zA (below_step (zB) hb); clear hb hbox hg; obtain ⟨b0, b1, b2, b3⟩ := ze2 a5.out))
 (try simp only [Act.put, zT])
 replace H := zI0 H
 rcases H with ⟨a0, H⟩ | ⟨a0, H⟩
 ·obtain rfl := zm H
  (try simp only [a0])
  go_wp2
  go_ret
  exact ⟨zE, zW HB.out⟩
 replace H := zI0 H
 rcases H with ⟨a4, H⟩ | ⟨a4, H⟩
 ·obtain rfl := zm H
  (try simp only [a0, a4])
  go_wp2
  go_ret
  exact ⟨zE, zW HB.out⟩
 obtain rfl := zm H
 (try simp only [a0, a4])
 go_wp2
 go_ret
 exact ⟨zE, zW HB.out⟩
/-! ### laws_szNeedS: function 61 -/
mutual
def laws_szNeedS.j0 : Nat → List (S113) → Int → Option (Int)
 | 0, _, _ => none
 | k + 1, x0, x1 => laws_szNeedS.l0 k x0 x1 0
def laws_szNeedS.l0 : Nat → List (S113) → Int → Int → Option (Int)
 | 0, _, _, _ => none
 | k + 1, x0, x1, x5 => if x5 < (x0.length : Int) then (if 0 ≤ x5 then ((laws_szNeed.f ((rd_T113 x0 x5).f0) ((rd_T113 x0 x5).f1) x1).bind fun a0 => (if a0 < 0 then (some (-1)) else (laws_szNeedS.l0 k x0 a0 (wrap64 (x5 + 1))))) else (none)) else (some x1)
end
def laws_szNeedS.f (k : Nat) (l0 : List (S113)) (a1 : Int) : Option (Int) := if (wrap64 (a1 - (l0.length : Int))) < 0 then (some (-1)) else (laws_szNeedS.j0 k l0 (wrap64 (a1 - (l0.length : Int))))
theorem laws_szNeedS.calls (k : Nat) (A0 : Option Addr) (c0 : Nat) (l0 : List (S113)) (a1 r : Int) (w : World) (b1 : Kd.C k113 w A0 l0.length l0) (b2 : l0.length ≤ c0) (h : laws_szNeedS.f k l0 a1 = some r) :
  Calls Try.prog 61 #[.slice A0 l0.length c0, .int .i64 a1] w fun e w' => e = .returned (.int .i64 r) ∧ Below w.heap.size w w' := by
 have c2 := Try.underlying113
 have b3 := zA b1
 have c3 := zA b2
 clear b1 b2
 have HB := zA (Below.refl w.heap.size w)
 unfold laws_szNeedS.f at h
 have H := h
 clear h
 have a8 := zA H
 clear H
 go_enter Try.func61, Try.ntmps61
 go_upto_if 11 with (fail)
 go_cut [] (fun wc => ∃ (kq : Nat), Aside0 (laws_szNeedS.j0 kq l0 (wrap64 (a1 - (l0.length : Int))) = some r) ∧ Aside0 (kq ≤ k) ∧ Aside0 (Below w.heap.size w wc))
 case first =>
  have H := a8.out; clear a8; replace H := zI0 H
  rcases H with ⟨a2, H⟩ | ⟨a2, H⟩
  ·(first | rw [a2] | (simp only [i64_w, i32_w]; rw [a2]) | skip)
   obtain rfl := zm H
   go_wp2
   go_ret
   exact ⟨zE, zB⟩
  (first | rw [a2] | (simp only [i64_w, i32_w]; rw [a2]) | skip)
  have H' := zA H; clear H
  go_wp2
  go_meet
  case rel => exact ⟨_, (by first | exact H' | (subst_vars; exact H')), ⟨by first | omega | exact Nat.le_refl _⟩, ⟨zB⟩⟩
 case rest =>
  clear a8
  try clear p2
  try clear c4
  try clear a2
  obtain ⟨kq, HA, b4, HB⟩ := hcut
  cases kq with
  | zero => exact absurd HA.out (by simp [laws_szNeedS.j0])
  | succ b5 =>
   have H := HA.out; clear HA; simp only [laws_szNeedS.j0] at H; have H' := zA H; clear H
   go_wp2
   go_loopg [1, 5] b5 (fun kq v1 v5 w' => ∃ (a3 : Int) (a0 : Int), v1 = .int .i64 a3 ∧ v5 = .int .i64 a0 ∧ Aside0 (laws_szNeedS.l0 kq l0 a3 a0 = some r) ∧ Aside0 (kq ≤ b5) ∧ Aside0 (Below w.heap.size w w'))
   case atStart => exact ⟨((wrap64 (a1 - (l0.length : Int)))), (0), zS, zS, H', ⟨Nat.le_refl _⟩, ⟨zB⟩⟩
   case round =>
    clear H'
    try clear p2
    try clear c4
    try clear a2
    try clear p2
    obtain ⟨a3, a0, rfl, rfl, HA, b6, HB⟩ := hrel
    cases gk with
    | zero => exact absurd HA.out (by simp [laws_szNeedS.l0])
    | succ k2 =>
     have H := HA.out; clear HA; simp only [laws_szNeedS.l0] at H; replace H := zI0 H
     rcases H with ⟨b8, H⟩ | ⟨b8, H⟩
     ·replace H := zD0 H; obtain ⟨c5, H⟩ := H; replace H := Option.bind_eq_some_iff.mp H; obtain ⟨a9, b7, H⟩ := H
      try dsimp only at H
      have A7 := zA b7; clear b7; replace H := zI0 H
      rcases H with ⟨b9, H⟩ | ⟨b9, H⟩
      ·obtain rfl := zm H; have a4 : 0 ≤ (a0 : Int) := zD; have a5 : a0 < (l0.length : Int) := zD; obtain ⟨c1, b0, a6, a7⟩ := at_T113 b3.out a0 a4 a5; cases b0; replace a6 := zx HB a6; replace a7 := zx HB a7; replace a4 := eq_true a4; replace a5 := eq_true a5
       go_wp2_with (first | ((with_reducible refine zq 84 ?_); refine zg (some 23) Try.func84 #[.agg #[.string ((rd_T113 l0 a0).f0), .string ((rd_T113 l0 a0).f1)], .int .i64 a3] ?_; (with_reducible refine (laws_szNeed.calls ((rd_T113 l0 a0).f0) ((rd_T113 l0 a0).f1) a3 a9 _ A7.out).mono ?_); rintro e w9 ⟨rfl, hb⟩; refine ⟨_, rfl, ?_⟩; replace HB := zA (below_step (zB) hb); (try clear hb)))
       go_ret
       exact ⟨zE, zB⟩
      have H' := zA H; clear H; have a4 : 0 ≤ (a0 : Int) := zD; have a5 : a0 < (l0.length : Int) := zD; obtain ⟨c1, b0, a6, a7⟩ := at_T113 b3.out a0 a4 a5; cases b0; replace a6 := zx HB a6; replace a7 := zx HB a7; replace a4 := eq_true a4; replace a5 := eq_true a5
      go_wp2_with (first | ((with_reducible refine zq 84 ?_); refine zg (some 23) Try.func84 #[.agg #[.string ((rd_T113 l0 a0).f0), .string ((rd_T113 l0 a0).f1)], .int .i64 a3] ?_; (with_reducible refine (laws_szNeed.calls ((rd_T113 l0 a0).f0) ((rd_T113 l0 a0).f1) a3 a9 _ A7.out).mono ?_); rintro e c6 ⟨rfl, hb⟩; refine ⟨_, rfl, ?_⟩; replace HB := zA (below_step (zB) hb); (try clear hb)))
      go_roundg k2
      case measure => have := b4.out; have := b6.out; omega
      case rel => exact ⟨(a9), (wrap64 (a0 + 1)), zS, zS, H', ⟨by have := b4.out; have := b6.out; omega⟩, ⟨zB⟩⟩
     obtain rfl := zm H
     go_wp2
     go_ret
     exact ⟨zE, zB⟩
/-! ### laws_szEntry: function 50 -/
def laws_szEntry.j0 : Nat → Int → ByteArray → Int → Int → Int → List ByteArray → List (S113) → Option (Int)
 | 0, _, _, _, _, _, _, _ => none
 | k + 1, x1, a7, a2, a3, a4, a5, a6 => (laws_szVer.f k a2 a3 a4 a5 x1).bind fun a0 => (if a0 < 0 then (some (-1)) else ((laws_szNeedS.f k a6 a0).bind fun a1 => (if a1 < 0 then (some (-1)) else (some a1))))
def laws_szEntry.f (k : Nat) (a0 : ByteArray) (a2 a3 a4 : Int) (a5 : List ByteArray) (a6 : List (S113)) (a1 : Int) : Option (Int) := if (wrap64 (a1 - (a0.size : Int))) < 0 then (some (-1)) else (laws_szEntry.j0 k (wrap64 (a1 - (a0.size : Int))) a0 a2 a3 a4 a5 a6)
theorem laws_szEntry.calls (k : Nat) (a3 : ByteArray) (a5 a6 a7 : Int) (a8 : Option Addr) (a9 : Nat) (a2 : List ByteArray) (b1 : Option Addr) (b2 : Nat) (a4 : List (S113)) (a1 r : Int) (w : World) (b8 : Kd.C Kd.string w a8 a2.length a2) (b9 : a2.length ≤ a9) (c0 : Kd.C k113 w b1 a4.length a4) (c1 : a4.length ≤ b2) (h : laws_szEntry.f k a3 a5 a6 a7 a2 a4 a1 = some r) :
  Calls Try.prog 50 #[.agg #[.string a3, .int .i64 a5, .int .i64 a6, .int .i64 a7, .slice a8 a2.length a9, .slice b1 a4.length b2], .int .i64 a1] w fun e w' => e = .returned (.int .i64 r) ∧ Below w.heap.size w w' := by
 have e5 := Try.underlying84
 have e6 := Try.underlying38
 have b5 := zA b8
 have b6 := zA b9
 clear b8 b9
 have c2 := zA c0
 have c3 := zA c1
 clear c0 c1
 have HB := zA (Below.refl w.heap.size w)
 unfold laws_szEntry.f at h
 have H := h
 clear h
 have b7 := zA H
 clear H
 go_enter Try.func50, Try.ntmps50
 go_upto_if 11 with (first | ((with_reducible refine zd 2 ?_); refine ze 2 84 #[.string a3, .int .i64 a5, .int .i64 a6, .int .i64 a7, .slice a8 a2.length a9, .slice b1 a4.length b2] ?_; intro d0 hg w4 hbox hb; have a0 := zA (hbox); have e7 := zi HB hg; have e8 := zi HB hg; replace HB := zA (below_step (zB) hb); clear hb hbox hg; obtain ⟨d1, d2, d3, d4, d5, d6, d7, d8, d9, e0, e1, e2⟩ := ze6 a0.out))
 (try simp only [Act.put, zT])
 go_cut [] (fun wc => ∃ (kq : Nat), Aside0 (laws_szEntry.j0 kq (wrap64 (a1 - (a3.size : Int))) a3 a5 a6 a7 a2 a4 = some r) ∧ Aside0 (kq ≤ k) ∧ Aside0 (wc.heap[d0]? = some (.cells #[.string a3, .int .i64 a5, .int .i64 a6, .int .i64 a7, (.slice a8 a2.length a9), (.slice b1 a4.length b2)] 84 (0, 0))) ∧ Aside0 (Below w.heap.size w wc))
 case first =>
  have H := b7.out; clear b7; replace H := zI0 H
  rcases H with ⟨b3, H⟩ | ⟨b3, H⟩
  ·(first | rw [b3] | (simp only [i64_w, i32_w]; rw [b3]) | skip)
   obtain rfl := zm H
   go_wp2
   go_ret
   exact ⟨zE, zW HB.out⟩
  (first | rw [b3] | (simp only [i64_w, i32_w]; rw [b3]) | skip)
  have H' := zA H; clear H
  go_wp2
  go_meet
  case rel => exact ⟨_, (by first | exact H' | (subst_vars; exact H')), ⟨by first | omega | exact Nat.le_refl _⟩, ⟨zK a0.out⟩, ⟨zW HB.out⟩⟩
 case rest =>
  clear b7
  try clear p2
  try clear c5
  try clear c6
  try clear b3
  try clear p6
  try clear d1 d2 d3 d4 d5 d6 d7 d8 d9 e0 e1 e2
  obtain ⟨kq, HA, e9, a0, HB⟩ := hcut
  cases kq with
  | zero => exact absurd HA.out (by simp [laws_szEntry.j0])
  | succ b4 =>
   have H := HA.out; clear HA; simp only [laws_szEntry.j0] at H; replace H := Option.bind_eq_some_iff.mp H; obtain ⟨b0, c4, H⟩ := H
   try dsimp only at H
   have A7 := zA c4; clear c4; replace H := zI0 H
   rcases H with ⟨e3, H⟩ | ⟨e3, H⟩
   ·obtain rfl := zm H; obtain ⟨f0, f1, f2, f3, f4, f5, f6, f7, f8, f9, g0, g1⟩ := ze6 a0.out
    go_wp2_with (first | ((with_reducible refine zq 15 ?_); refine zg (some 15) Try.func15 #[.agg #[.int .i64 a5, .int .i64 a6, .int .i64 a7, .slice a8 a2.length a9], .int .i64 (wrap64 (a1 - (a3.size : Int)))] ?_; (with_reducible refine (laws_szVer.calls b4 a5 a6 a7 _ _ a2 (wrap64 (a1 - (a3.size : Int))) b0 _ ?s1 ?s2 A7.out).mono ?_); (case s1 => exact zC (Kd.C_below b5.out HB.out)); (case s2 => exact b6.out); rintro e g2 ⟨rfl, hb⟩; refine ⟨_, rfl, ?_⟩; replace a0 := zb a0 hb; replace HB := zh HB hb; (try clear hb)))
    go_ret
    exact ⟨zE, zW HB.out⟩
   replace H := Option.bind_eq_some_iff.mp H; obtain ⟨c7, c8, H⟩ := H
   try dsimp only at H
   have c9 := zA c8; clear c8; replace H := zI0 H
   rcases H with ⟨e4, H⟩ | ⟨e4, H⟩
   ·obtain rfl := zm H; obtain ⟨g3, g4, g5, g6, g7, g8, g9, h0, h1, h2, h3, h4⟩ := ze6 a0.out
    go_wp2_with (first | ((with_reducible refine zq 15 ?_); refine zg (some 15) Try.func15 #[.agg #[.int .i64 a5, .int .i64 a6, .int .i64 a7, .slice a8 a2.length a9], .int .i64 (wrap64 (a1 - (a3.size : Int)))] ?_; (with_reducible refine (laws_szVer.calls b4 a5 a6 a7 _ _ a2 (wrap64 (a1 - (a3.size : Int))) b0 _ ?s1 ?s2 A7.out).mono ?_); (case s1 => exact zC (Kd.C_below b5.out HB.out)); (case s2 => exact b6.out); rintro e h5 ⟨rfl, hb⟩; refine ⟨_, rfl, ?_⟩; replace a0 := zb a0 hb; replace HB := zh HB hb; (try clear hb); obtain ⟨h6, h7, h8, h9, i0, i1, i2, i3, i4, i5, i6, i7⟩ := ze6 a0.out) | ((with_reducible refine zq 61 ?_); refine zg (some 21) Try.func61 #[.slice b1 a4.length b2, .int .i64 b0] ?_; (with_reducible refine (laws_szNeedS.calls b4 _ _ a4 b0 c7 _ ?s1 ?s2 c9.out).mono ?_); (case s1 => exact zC (Kd.C_below c2.out HB.out)); (case s2 => exact c3.out); rintro e i8 ⟨rfl, hb⟩; refine ⟨_, rfl, ?_⟩; replace a0 := zb a0 hb; replace HB := zh HB hb; (try clear hb)))
    go_ret
    exact ⟨zE, zW HB.out⟩
   obtain rfl := zm H; obtain ⟨i9, j1, j2, j3, j4, j5, j6, j7, j8, j9, k0, k1⟩ := ze6 a0.out
   go_wp2_with (first | ((with_reducible refine zq 15 ?_); refine zg (some 15) Try.func15 #[.agg #[.int .i64 a5, .int .i64 a6, .int .i64 a7, .slice a8 a2.length a9], .int .i64 (wrap64 (a1 - (a3.size : Int)))] ?_; (with_reducible refine (laws_szVer.calls b4 a5 a6 a7 _ _ a2 (wrap64 (a1 - (a3.size : Int))) b0 _ ?s1 ?s2 A7.out).mono ?_); (case s1 => exact zC (Kd.C_below b5.out HB.out)); (case s2 => exact b6.out); rintro e k2 ⟨rfl, hb⟩; refine ⟨_, rfl, ?_⟩; replace a0 := zb a0 hb; replace HB := zh HB hb; (try clear hb); obtain ⟨k3, k4, k5, k6, k7, k8, k9, l0, l1, l2, l3, l4⟩ := ze6 a0.out) | ((with_reducible refine zq 61 ?_); refine zg (some 21) Try.func61 #[.slice b1 a4.length b2, .int .i64 b0] ?_; (with_reducible refine (laws_szNeedS.calls b4 _ _ a4 b0 c7 _ ?s1 ?s2 c9.out).mono ?_); (case s1 => exact zC (Kd.C_below c2.out HB.out)); (case s2 => exact c3.out); rintro e l5 ⟨rfl, hb⟩; refine ⟨_, rfl, ?_⟩; replace a0 := zb a0 hb; replace HB := zh HB hb; (try clear hb)))
   go_ret
   exact ⟨zE, zW HB.out⟩
/-! ### laws_szEntryS: function 14 -/
mutual
def laws_szEntryS.j0 : Nat → List (S84) → Int → Option (Int)
 | 0, _, _ => none
 | k + 1, x0, x1 => laws_szEntryS.l0 k x0 x1 0
def laws_szEntryS.l0 : Nat → List (S84) → Int → Int → Option (Int)
 | 0, _, _, _ => none
 | k + 1, x0, x1, x5 => if x5 < (x0.length : Int) then (if 0 ≤ x5 then ((laws_szEntry.f k ((rd_T84 x0 x5).f0) ((rd_T84 x0 x5).f1.f0) ((rd_T84 x0 x5).f1.f1) ((rd_T84 x0 x5).f1.f2) ((rd_T84 x0 x5).f1.f3) ((rd_T84 x0 x5).f2) x1).bind fun a0 => (if a0 < 0 then (some (-1)) else (laws_szEntryS.l0 k x0 a0 (wrap64 (x5 + 1))))) else (none)) else (some x1)
end
def laws_szEntryS.f (k : Nat) (l0 : List (S84)) (a1 : Int) : Option (Int) := if (wrap64 (a1 - (l0.length : Int))) < 0 then (some (-1)) else (laws_szEntryS.j0 k l0 (wrap64 (a1 - (l0.length : Int))))
theorem laws_szEntryS.calls (k : Nat) (A0 : Option Addr) (c0 : Nat) (l0 : List (S84)) (a1 r : Int) (w : World) (d0 : Kd.C k84 w A0 l0.length l0) (d1 : l0.length ≤ c0) (h : laws_szEntryS.f k l0 a1 = some r) :
  Calls Try.prog 14 #[.slice A0 l0.length c0, .int .i64 a1] w fun e w' => e = .returned (.int .i64 r) ∧ Below w.heap.size w w' := by
 have e0 := Try.underlying84
 have d2 := zA d0
 have e1 := zA d1
 clear d0 d1
 have HB := zA (Below.refl w.heap.size w)
 unfold laws_szEntryS.f at h
 have H := h
 clear h
 have b6 := zA H
 clear H
 go_enter Try.func14, Try.ntmps14
 go_upto_if 11 with (fail)
 go_cut [] (fun wc => ∃ (kq : Nat), Aside0 (laws_szEntryS.j0 kq l0 (wrap64 (a1 - (l0.length : Int))) = some r) ∧ Aside0 (kq ≤ k) ∧ Aside0 (Below w.heap.size w wc))
 case first =>
  have H := b6.out; clear b6; replace H := zI0 H
  rcases H with ⟨a2, H⟩ | ⟨a2, H⟩
  ·(first | rw [a2] | (simp only [i64_w, i32_w]; rw [a2]) | skip)
   obtain rfl := zm H
   go_wp2
   go_ret
   exact ⟨zE, zB⟩
  (first | rw [a2] | (simp only [i64_w, i32_w]; rw [a2]) | skip)
  have H' := zA H; clear H
  go_wp2
  go_meet
  case rel => exact ⟨_, (by first | exact H' | (subst_vars; exact H')), ⟨by first | omega | exact Nat.le_refl _⟩, ⟨zB⟩⟩
 case rest =>
  clear b6
  try clear c1
  try clear p2
  try clear c4
  try clear a2
  obtain ⟨kq, HA, d3, HB⟩ := hcut
  cases kq with
  | zero => exact absurd HA.out (by simp [laws_szEntryS.j0])
  | succ d4 =>
   have H := HA.out; clear HA; simp only [laws_szEntryS.j0] at H; have H' := zA H; clear H
   go_wp2
   go_loopg [1, 5] d4 (fun kq v1 v5 w' => ∃ (a3 : Int) (a0 : Int), v1 = .int .i64 a3 ∧ v5 = .int .i64 a0 ∧ Aside0 (laws_szEntryS.l0 kq l0 a3 a0 = some r) ∧ Aside0 (kq ≤ d4) ∧ Aside0 (Below w.heap.size w w'))
   case atStart => exact ⟨((wrap64 (a1 - (l0.length : Int)))), (0), zS, zS, H', ⟨Nat.le_refl _⟩, ⟨zB⟩⟩
   case round =>
    clear H'
    try clear c1
    try clear p2
    try clear c4
    try clear a2
    try clear p2
    obtain ⟨a3, a0, rfl, rfl, HA, d5, HB⟩ := hrel
    cases gk with
    | zero => exact absurd HA.out (by simp [laws_szEntryS.l0])
    | succ k2 =>
     have H := HA.out; clear HA; simp only [laws_szEntryS.l0] at H; replace H := zI0 H
     rcases H with ⟨d7, H⟩ | ⟨d7, H⟩
     ·replace H := zD0 H; obtain ⟨e2, H⟩ := H; replace H := Option.bind_eq_some_iff.mp H; obtain ⟨b7, d6, H⟩ := H
      try dsimp only at H
      have A7 := zA d6; clear d6; replace H := zI0 H
      rcases H with ⟨d8, H⟩ | ⟨d8, H⟩
      ·obtain rfl := zm H; have a4 : 0 ≤ (a0 : Int) := zD; have a5 : a0 < (l0.length : Int) := zD; obtain ⟨d9, b8, b9, c2, c3, c5, a6, a7, a8, a9, b0, b1, b2, b3, b4, b5⟩ := at_T84 d2.out a0 a4 a5; cases c5; replace a6 := zx HB a6; replace a7 := zx HB a7; replace a8 := zx HB a8; replace a9 := zx HB a9; replace b0 := zx HB b0; replace b1 := zx HB b1; have c6 := zA b3; have c7 := zA b2; clear b3 b2; have c8 := zA b5; have c9 := zA b4; clear b5 b4; replace a4 := eq_true a4; replace a5 := eq_true a5
       go_wp2_with (first | ((with_reducible refine zq 50 ?_); refine zg (some 23) Try.func50 #[.agg #[.string ((rd_T84 l0 a0).f0), .int .i64 ((rd_T84 l0 a0).f1.f0), .int .i64 ((rd_T84 l0 a0).f1.f1), .int .i64 ((rd_T84 l0 a0).f1.f2), .slice b8 ((rd_T84 l0 a0).f1.f3).length b9, .slice c2 ((rd_T84 l0 a0).f2).length c3], .int .i64 a3] ?_; (with_reducible refine (laws_szEntry.calls k2 ((rd_T84 l0 a0).f0) ((rd_T84 l0 a0).f1.f0) ((rd_T84 l0 a0).f1.f1) ((rd_T84 l0 a0).f1.f2) _ _ ((rd_T84 l0 a0).f1.f3) _ _ ((rd_T84 l0 a0).f2) a3 b7 _ ?s1 ?s2 ?s3 ?s4 A7.out).mono ?_); (case s1 => exact zC (Kd.C_below c6.out HB.out)); (case s2 => exact c7.out); (case s3 => exact zC (Kd.C_below c8.out HB.out)); (case s4 => exact c9.out); rintro e w9 ⟨rfl, hb⟩; refine ⟨_, rfl, ?_⟩; replace HB := zA (below_step (zB) hb); (try clear hb)))
       go_ret
       exact ⟨zE, zB⟩
      have H' := zA H; clear H; have a4 : 0 ≤ (a0 : Int) := zD; have a5 : a0 < (l0.length : Int) := zD; obtain ⟨d9, b8, b9, c2, c3, c5, a6, a7, a8, a9, b0, b1, b2, b3, b4, b5⟩ := at_T84 d2.out a0 a4 a5; cases c5; replace a6 := zx HB a6; replace a7 := zx HB a7; replace a8 := zx HB a8; replace a9 := zx HB a9; replace b0 := zx HB b0; replace b1 := zx HB b1; have c6 := zA b3; have c7 := zA b2; clear b3 b2; have c8 := zA b5; have c9 := zA b4; clear b5 b4; replace a4 := eq_true a4; replace a5 := eq_true a5
      go_wp2_with (first | ((with_reducible refine zq 50 ?_); refine zg (some 23) Try.func50 #[.agg #[.string ((rd_T84 l0 a0).f0), .int .i64 ((rd_T84 l0 a0).f1.f0), .int .i64 ((rd_T84 l0 a0).f1.f1), .int .i64 ((rd_T84 l0 a0).f1.f2), .slice b8 ((rd_T84 l0 a0).f1.f3).length b9, .slice c2 ((rd_T84 l0 a0).f2).length c3], .int .i64 a3] ?_; (with_reducible refine (laws_szEntry.calls k2 ((rd_T84 l0 a0).f0) ((rd_T84 l0 a0).f1.f0) ((rd_T84 l0 a0).f1.f1) ((rd_T84 l0 a0).f1.f2) _ _ ((rd_T84 l0 a0).f1.f3) _ _ ((rd_T84 l0 a0).f2) a3 b7 _ ?s1 ?s2 ?s3 ?s4 A7.out).mono ?_); (case s1 => exact zC (Kd.C_below c6.out HB.out)); (case s2 => exact c7.out); (case s3 => exact zC (Kd.C_below c8.out HB.out)); (case s4 => exact c9.out); rintro e e3 ⟨rfl, hb⟩; refine ⟨_, rfl, ?_⟩; replace HB := zA (below_step (zB) hb); (try clear hb)))
      go_roundg k2
      case measure => have := d3.out; have := d5.out; omega
      case rel => exact ⟨(b7), (wrap64 (a0 + 1)), zS, zS, H', ⟨by have := d3.out; have := d5.out; omega⟩, ⟨zB⟩⟩
     obtain rfl := zm H
     go_wp2
     go_ret
     exact ⟨zE, zB⟩
/-! ### spec_l3SameCore: function 75 -/
def spec_l3SameCore.f (a0 a1 a2 : Int) (a6 : List ByteArray) (a3 a4 a5 : Int) (a7 : List ByteArray) : Option (Bool) := if a0 = a3 then (if a1 = a4 then (some (a2 == a5)) else (some false)) else (some false)
theorem spec_l3SameCore.calls (a3 a4 a5 : Int) (a6 : Option Addr) (a7 : Nat) (a1 : List ByteArray) (a8 a9 b0 : Int) (b1 : Option Addr) (b2 : Nat) (a2 : List ByteArray) (r : Bool) (w : World) (b6 : Kd.C Kd.string w a6 a1.length a1) (b7 : a1.length ≤ a7) (b8 : Kd.C Kd.string w b1 a2.length a2) (b9 : a2.length ≤ b2) (h : spec_l3SameCore.f a3 a4 a5 a1 a8 a9 b0 a2 = some r) :
  Calls Try.prog 75 #[.agg #[.int .i64 a3, .int .i64 a4, .int .i64 a5, .slice a6 a1.length a7], .agg #[.int .i64 a8, .int .i64 a9, .int .i64 b0, .slice b1 a2.length b2]] w fun e w' => e = .returned (.bool r) ∧ Below w.heap.size w w' := by
 have d2 := Try.underlying41
 have d3 := zA b6
 have d4 := zA b7
 clear b6 b7
 have d5 := zA b8
 have d6 := zA b9
 clear b8 b9
 have HB := zA (Below.refl w.heap.size w)
 unfold spec_l3SameCore.f at h
 have H := h
 clear h
 replace H := zI1 H
 rcases H with ⟨c3, H⟩ | ⟨c3, H⟩
 ·have c8 := beq_iff_eq.mpr c3; have c9 := bne_eq_false_iff_eq.mpr c3; clear c3; replace H := zI1 H
  rcases H with ⟨c4, H⟩ | ⟨c4, H⟩
  ·have d0 := beq_iff_eq.mpr c4; have d1 := bne_eq_false_iff_eq.mpr c4; clear c4; obtain rfl := zm H
   go_enter Try.func75, Try.ntmps75
   go_wp2_with (first | ((with_reducible refine zd 2 ?_); refine ze 2 41 #[.int .i64 a3, .int .i64 a4, .int .i64 a5, .slice a6 a1.length a7] ?_; intro c0 hg w5 hbox hb; have a0 := zA (hbox); have c1 := zi HB hg; have c2 := zi HB hg; replace HB := zA (below_step (zB) hb); clear hb hbox hg) | ((with_reducible refine zd 3 ?_); refine ze 3 41 #[.int .i64 a8, .int .i64 a9, .int .i64 b0, .slice b1 a2.length b2] ?_; intro c5 hg w6 hbox hb; have b3 := zA (hbox); have c6 := zi HB hg; have c7 := zi HB hg; replace HB := zh HB hb; have b4 := zA (zL hg (zK a0.out)); have b5 := zA (zJ hg (zK a0.out)); replace a0 := zb a0 hb; clear hb hbox hg; have d7 := b4.out; have d8 := b5.out; obtain ⟨d9, e0, e1, e2, e3, e4, e5, e6⟩ := ze4 a0.out; obtain ⟨e7, e8, e9, f0, f1, f2, f3, f4⟩ := ze4 b3.out))
   go_ret
   exact ⟨zE, zW HB.out⟩
  have d0 := beq_eq_false_iff_ne.mpr c4; have d1 := bne_iff_ne.mpr c4; obtain rfl := zm H
  go_enter Try.func75, Try.ntmps75
  go_wp2_with (first | ((with_reducible refine zd 2 ?_); refine ze 2 41 #[.int .i64 a3, .int .i64 a4, .int .i64 a5, .slice a6 a1.length a7] ?_; intro c0 hg f5 hbox hb; have a0 := zA (hbox); have c1 := zi HB hg; have c2 := zi HB hg; replace HB := zA (below_step (zB) hb); clear hb hbox hg) | ((with_reducible refine zd 3 ?_); refine ze 3 41 #[.int .i64 a8, .int .i64 a9, .int .i64 b0, .slice b1 a2.length b2] ?_; intro c5 hg f6 hbox hb; have b3 := zA (hbox); have c6 := zi HB hg; have c7 := zi HB hg; replace HB := zh HB hb; have b4 := zA (zL hg (zK a0.out)); have b5 := zA (zJ hg (zK a0.out)); replace a0 := zb a0 hb; clear hb hbox hg; have f7 := b4.out; have f8 := b5.out; obtain ⟨f9, g0, g1, g2, g3, g4, g5, g6⟩ := ze4 a0.out; obtain ⟨g7, g8, g9, h0, h1, h2, h3, h4⟩ := ze4 b3.out))
  go_ret
  exact ⟨zE, zW HB.out⟩
 have c8 := beq_eq_false_iff_ne.mpr c3
 have c9 := bne_iff_ne.mpr c3
 obtain rfl := zm H
 go_enter Try.func75, Try.ntmps75
 go_wp2_with (first | ((with_reducible refine zd 2 ?_); refine ze 2 41 #[.int .i64 a3, .int .i64 a4, .int .i64 a5, .slice a6 a1.length a7] ?_; intro c0 hg h5 hbox hb; have a0 := zA (hbox); have c1 := zi HB hg; have c2 := zi HB hg; replace HB := zA (below_step (zB) hb); clear hb hbox hg) | ((with_reducible refine zd 3 ?_); refine ze 3 41 #[.int .i64 a8, .int .i64 a9, .int .i64 b0, .slice b1 a2.length b2] ?_; intro c5 hg h6 hbox hb; have b3 := zA (hbox); have c6 := zi HB hg; have c7 := zi HB hg; replace HB := zh HB hb; have b4 := zA (zL hg (zK a0.out)); have b5 := zA (zJ hg (zK a0.out)); replace a0 := zb a0 hb; clear hb hbox hg; have h7 := b4.out; have h8 := b5.out; obtain ⟨h9, i0, i1, i2, i3, i4, i5, i6⟩ := ze4 a0.out; obtain ⟨i7, i8, i9, j0, j1, j2, j3, j4⟩ := ze4 b3.out))
 go_ret
 exact ⟨zE, zW HB.out⟩
/-! ### spec_l2SameTexts: function 76 -/
mutual
def spec_l2SameTexts.j0 : Nat → List ByteArray → List ByteArray → Option (Bool)
 | 0, _, _ => none
 | k + 1, x0, x1 => spec_l2SameTexts.l0 k x0 x1 0
def spec_l2SameTexts.l0 : Nat → List ByteArray → List ByteArray → Int → Option (Bool)
 | 0, _, _, _ => none
 | k + 1, x0, x1, x5 => if x5 < (x0.length : Int) then (if 0 ≤ x5 then (if x5 < (x1.length : Int) then (if (rdOf ByteArray.empty x0 x5).toList = (rdOf ByteArray.empty x1 x5).toList then (spec_l2SameTexts.l0 k x0 x1 (wrap64 (x5 + 1))) else (some false)) else (none)) else (none)) else (some true)
end
def spec_l2SameTexts.f (k : Nat) (l0 l1 : List ByteArray) : Option (Bool) := if (l0.length : Int) = (l1.length : Int) then (spec_l2SameTexts.j0 k l0 l1) else (some false)
theorem spec_l2SameTexts.calls (k : Nat) (A0 : Option Addr) (c0 : Nat) (l0 : List ByteArray) (A1 : Option Addr) (c1 : Nat) (l1 : List ByteArray) (r : Bool) (w : World) (b1 : Kd.C Kd.string w A0 l0.length l0) (b2 : l0.length ≤ c0) (b3 : Kd.C Kd.string w A1 l1.length l1) (b4 : l1.length ≤ c1) (h : spec_l2SameTexts.f k l0 l1 = some r) :
  Calls Try.prog 76 #[.slice A0 l0.length c0, .slice A1 l1.length c1] w fun e w' => e = .returned (.bool r) ∧ Drawn0 w w' := by
 have b5 := zA b1
 have d2 := zA b2
 clear b1 b2
 have b6 := zA b3
 have d3 := zA b4
 clear b3 b4
 unfold spec_l2SameTexts.f at h
 have H := h
 clear h
 have a6 := zA H
 clear H
 go_enter Try.func76, Try.ntmps76
 go_upto_if 10 with (fail)
 repeat (go_quiet (fail); go_upto_if 10 with (fail))
 go_cut [] (fun wc => ∃ (kq : Nat), Aside0 (spec_l2SameTexts.j0 kq l0 l1 = some r) ∧ Aside0 (kq ≤ k) ∧ Drawn0 w wc)
 case first =>
  have H := a6.out; clear a6; replace H := zI1 H
  rcases H with ⟨c4, H⟩ | ⟨c4, H⟩
  ·have a1 := beq_iff_eq.mpr c4; have a7 := bne_eq_false_iff_eq.mpr c4
   have a8 : (l0.length == l1.length) = true := by first | simpa using c4 | (simp at c4 ⊢; omega)
   clear c4
   (first | rw [a1] | (simp only [i64_w, i32_w]; rw [a1]) | skip)
   have H' := zA H; clear H
   go_wp2
   repeat (go_quiet (fail); try go_wp2)
   go_meet
   case rel => exact ⟨_, (by first | exact H' | (subst_vars; exact H')), ⟨by first | omega | exact Nat.le_refl _⟩, by repeat (first | exact Drawn0.refl _ | apply Drawn0.step)⟩
  have a1 := beq_eq_false_iff_ne.mpr c4; have a7 := bne_iff_ne.mpr c4
  have a8 : (l0.length == l1.length) = false := by first | simpa using c4 | (simp at c4 ⊢; omega)
  (first | rw [a1] | (simp only [i64_w, i32_w]; rw [a1]) | skip)
  obtain rfl := zm H
  go_wp2
  repeat (go_quiet (fail); try go_wp2)
  go_ret
  exact ⟨by first | rfl | (simp; done) | (simp [*]; done) | (simp; rw [Bool.eq_iff_iff]; simp; done), by repeat (first | exact Drawn0.refl _ | apply Drawn0.step)⟩
 case rest =>
  clear a6
  try clear c1
  try clear p2
  try clear c4
  try clear a1
  try clear a7
  try clear a8
  obtain ⟨kq, HA, b7, ⟨d4, rfl⟩⟩ := hcut
  cases kq with
  | zero => exact absurd HA.out (by simp [spec_l2SameTexts.j0])
  | succ b8 =>
   have H := HA.out; clear HA; simp only [spec_l2SameTexts.j0] at H; have H' := zA H; clear H
   go_wp2
   repeat (go_quiet (fail); try go_wp2)
   go_loopg [5] b8 (fun kq v5 w' => ∃ (a0 : Int), v5 = .int .i64 a0 ∧ Aside0 (spec_l2SameTexts.l0 kq l0 l1 a0 = some r) ∧ Aside0 (kq ≤ b8) ∧ Drawn0 w w')
   case atStart => exact ⟨(0), zS, H', ⟨Nat.le_refl _⟩, by repeat (first | exact Drawn0.refl _ | apply Drawn0.step)⟩
   case round =>
    clear H'
    try clear c1
    try clear c2
    try clear p2
    try clear c4
    try clear a1
    try clear a7
    try clear a8
    try clear p2
    obtain ⟨a0, rfl, HA, b9, ⟨m2, rfl⟩⟩ := hrel
    cases gk with
    | zero => exact absurd HA.out (by simp [spec_l2SameTexts.l0])
    | succ k2 =>
     have H := HA.out; clear HA; simp only [spec_l2SameTexts.l0] at H; replace H := zI0 H
     rcases H with ⟨c3, H⟩ | ⟨c3, H⟩
     ·replace H := zD0 H; obtain ⟨d5, H⟩ := H; replace H := zD0 H; obtain ⟨d6, H⟩ := H; replace H := zI1 H
      rcases H with ⟨c8, H⟩ | ⟨c8, H⟩
      ·have c5 := beq_iff_eq.mpr c8; have c6 := bne_eq_false_iff_eq.mpr c8; clear c8; have H' := zA H; clear H; have a2 : 0 ≤ (a0 : Int) := zD; have a3 : a0 < (l0.length : Int) := zD; obtain ⟨c7, a9, c9⟩ := Kd.at_string b5.out a0 a2 a3; cases a9; replace a2 := eq_true a2; replace a3 := eq_true a3; have a4 : 0 ≤ (a0 : Int) := zD; have a5 : a0 < (l1.length : Int) := zD; obtain ⟨d0, b0, d1⟩ := Kd.at_string b6.out a0 a4 a5; cases b0; replace a4 := eq_true a4; replace a5 := eq_true a5
       go_wp2
       repeat (go_quiet (fail); try go_wp2)
       go_roundg k2
       case measure => have := b7.out; have := b9.out; omega
       case rel => exact ⟨(wrap64 (a0 + 1)), zS, H', ⟨by have := b7.out; have := b9.out; omega⟩, by repeat (first | exact Drawn0.refl _ | apply Drawn0.step)⟩
      have c5 := beq_eq_false_iff_ne.mpr c8; have c6 := bne_iff_ne.mpr c8; obtain rfl := zm H; have a2 : 0 ≤ (a0 : Int) := zD; have a3 : a0 < (l0.length : Int) := zD; obtain ⟨c7, a9, c9⟩ := Kd.at_string b5.out a0 a2 a3; cases a9; replace a2 := eq_true a2; replace a3 := eq_true a3; have a4 : 0 ≤ (a0 : Int) := zD; have a5 : a0 < (l1.length : Int) := zD; obtain ⟨d0, b0, d1⟩ := Kd.at_string b6.out a0 a4 a5; cases b0; replace a4 := eq_true a4; replace a5 := eq_true a5
      go_wp2
      repeat (go_quiet (fail); try go_wp2)
      go_ret
      exact ⟨by first | rfl | (simp; done) | (simp [*]; done) | (simp; rw [Bool.eq_iff_iff]; simp; done), by repeat (first | exact Drawn0.refl _ | apply Drawn0.step)⟩
     obtain rfl := zm H
     go_wp2
     repeat (go_quiet (fail); try go_wp2)
     go_ret
     exact ⟨by first | rfl | (simp; done) | (simp [*]; done) | (simp; rw [Bool.eq_iff_iff]; simp; done), by repeat (first | exact Drawn0.refl _ | apply Drawn0.step)⟩
/-! ### spec_SameVer: function 51 -/
def spec_SameVer.f (k : Nat) (a2 a3 a4 : Int) (a0 : List ByteArray) (a5 a6 a7 : Int) (a1 : List ByteArray) : Option (Bool) := (spec_l3SameCore.f a2 a3 a4 a0 a5 a6 a7 a1).bind fun a8 => (if a8 = true then ((spec_l2SameTexts.f k a0 a1).bind fun a9 => (some a9)) else (some false))
theorem spec_SameVer.calls (k : Nat) (a3 a4 a5 : Int) (b0 : Option Addr) (b1 : Nat) (a1 : List ByteArray) (a6 a7 a8 : Int) (b2 : Option Addr) (b3 : Nat) (a2 : List ByteArray) (r : Bool) (w : World) (c0 : Kd.C Kd.string w b0 a1.length a1) (c1 : a1.length ≤ b1) (c2 : Kd.C Kd.string w b2 a2.length a2) (c3 : a2.length ≤ b3) (h : spec_SameVer.f k a3 a4 a5 a1 a6 a7 a8 a2 = some r) :
  Calls Try.prog 51 #[.agg #[.int .i64 a3, .int .i64 a4, .int .i64 a5, .slice b0 a1.length b1], .agg #[.int .i64 a6, .int .i64 a7, .int .i64 a8, .slice b2 a2.length b3]] w fun e w' => e = .returned (.bool r) ∧ Below w.heap.size w w' := by
 have d3 := Try.underlying41
 have b4 := zA c0
 have b5 := zA c1
 clear c0 c1
 have b6 := zA c2
 have b7 := zA c3
 clear c2 c3
 have HB := zA (Below.refl w.heap.size w)
 unfold spec_SameVer.f at h
 have H := h
 clear h
 replace H := Option.bind_eq_some_iff.mp H
 obtain ⟨d4, c4, H⟩ := H
 try dsimp only at H
 have A3 := zA c4
 clear c4
 replace H := zB0 H
 rcases H with ⟨rfl, H⟩ | ⟨rfl, H⟩
 ·replace H := Option.bind_eq_some_iff.mp H; obtain ⟨c6, c5, H⟩ := H
  try dsimp only at H
  have A5 := zA c5; clear c5; obtain rfl := zm H
  go_enter Try.func51, Try.ntmps51
  go_wp2_with (first | ((with_reducible refine zd 2 ?_); refine ze 2 41 #[.int .i64 a3, .int .i64 a4, .int .i64 a5, .slice b0 a1.length b1] ?_; intro c7 hg w6 hbox hb; have a0 := zA (hbox); have c8 := zi HB hg; have c9 := zi HB hg; replace HB := zA (below_step (zB) hb); clear hb hbox hg) | ((with_reducible refine zd 3 ?_); refine ze 3 41 #[.int .i64 a6, .int .i64 a7, .int .i64 a8, .slice b2 a2.length b3] ?_; intro d0 hg w7 hbox hb; have a9 := zA (hbox); have d1 := zi HB hg; have d2 := zi HB hg; replace HB := zh HB hb; have b8 := zA (zL hg (zK a0.out)); have b9 := zA (zJ hg (zK a0.out)); replace a0 := zb a0 hb; clear hb hbox hg; have d5 := b8.out; have d6 := b9.out; obtain ⟨d7, d8, d9, e0, e1, e2, e3, e4⟩ := ze4 a0.out; obtain ⟨e5, e6, e7, e8, e9, f0, f1, f2⟩ := ze4 a9.out) | ((with_reducible refine zq 75 ?_); refine zg (some 7) Try.func75 #[.agg #[.int .i64 a3, .int .i64 a4, .int .i64 a5, .slice b0 a1.length b1], .agg #[.int .i64 a6, .int .i64 a7, .int .i64 a8, .slice b2 a2.length b3]] ?_; (with_reducible refine (spec_l3SameCore.calls a3 a4 a5 _ _ a1 a6 a7 a8 _ _ a2 true _ ?s1 ?s2 ?s3 ?s4 A3.out).mono ?_); (case s1 => exact zC (Kd.C_below b4.out HB.out)); (case s2 => exact b5.out); (case s3 => exact zC (Kd.C_below b6.out HB.out)); (case s4 => exact b7.out); rintro e f3 ⟨rfl, hb⟩; refine ⟨_, rfl, ?_⟩; replace a0 := zb a0 hb; replace a9 := zb a9 hb; replace HB := zh HB hb; (try clear hb); obtain ⟨f4, f5, f6, f7, f8, f9, g0, g1⟩ := ze4 a0.out; obtain ⟨g2, g3, g4, g5, g6, g7, g8, g9⟩ := ze4 a9.out) | (go_at_call 76; (with_reducible refine (spec_l2SameTexts.calls k _ _ a1 _ _ a2 c6 _ ?s1 ?s2 ?s3 ?s4 A5.out).mono ?_); (case s1 => exact zC (Kd.C_below b4.out HB.out)); (case s2 => exact b5.out); (case s3 => exact zC (Kd.C_below b6.out HB.out)); (case s4 => exact b7.out); rintro e w' ⟨rfl, ⟨nd, rfl⟩⟩))
  go_ret
  exact ⟨zE, zW HB.out⟩
 obtain rfl := zm H
 go_enter Try.func51, Try.ntmps51
 go_wp2_with (first | ((with_reducible refine zd 2 ?_); refine ze 2 41 #[.int .i64 a3, .int .i64 a4, .int .i64 a5, .slice b0 a1.length b1] ?_; intro c7 hg h0 hbox hb; have a0 := zA (hbox); have c8 := zi HB hg; have c9 := zi HB hg; replace HB := zA (below_step (zB) hb); clear hb hbox hg) | ((with_reducible refine zd 3 ?_); refine ze 3 41 #[.int .i64 a6, .int .i64 a7, .int .i64 a8, .slice b2 a2.length b3] ?_; intro d0 hg h1 hbox hb; have a9 := zA (hbox); have d1 := zi HB hg; have d2 := zi HB hg; replace HB := zh HB hb; have b8 := zA (zL hg (zK a0.out)); have b9 := zA (zJ hg (zK a0.out)); replace a0 := zb a0 hb; clear hb hbox hg; have h2 := b8.out; have h3 := b9.out; obtain ⟨h4, h5, h6, h7, h8, h9, i0, i1⟩ := ze4 a0.out; obtain ⟨i2, i3, i4, i5, i6, i7, i8, i9⟩ := ze4 a9.out) | ((with_reducible refine zq 75 ?_); refine zg (some 7) Try.func75 #[.agg #[.int .i64 a3, .int .i64 a4, .int .i64 a5, .slice b0 a1.length b1], .agg #[.int .i64 a6, .int .i64 a7, .int .i64 a8, .slice b2 a2.length b3]] ?_; (with_reducible refine (spec_l3SameCore.calls a3 a4 a5 _ _ a1 a6 a7 a8 _ _ a2 false _ ?s1 ?s2 ?s3 ?s4 A3.out).mono ?_); (case s1 => exact zC (Kd.C_below b4.out HB.out)); (case s2 => exact b5.out); (case s3 => exact zC (Kd.C_below b6.out HB.out)); (case s4 => exact b7.out); rintro e j0 ⟨rfl, hb⟩; refine ⟨_, rfl, ?_⟩; replace a0 := zb a0 hb; replace a9 := zb a9 hb; replace HB := zh HB hb; (try clear hb)))
 go_ret
 exact ⟨zE, zW HB.out⟩
/-! ### spec_l3Copy: function 77 -/
def spec_l3Copy.f (a2 a3 a4 : Int) (a0 : List ByteArray) : Option (Int × Int × Int × List ByteArray) := (some (([] : List ByteArray) : List ByteArray)).bind fun a1 => (if a1.length + a0.length < 8796093022208 then (some (a2, a3, a4, (a1 ++ a0))) else (none))
theorem spec_l3Copy.calls (a3 a4 a5 : Int) (a8 : Option Addr) (a9 : Nat) (a1 : List ByteArray) (r1 r2 r3 : Int) (r4 : List ByteArray) (w : World) (b8 : Kd.C Kd.string w a8 a1.length a1) (b9 : a1.length ≤ a9) (h : spec_l3Copy.f a3 a4 a5 a1 = some (r1, r2, r3, r4)) :
  Calls Try.prog 77 #[.agg #[.int .i64 a3, .int .i64 a4, .int .i64 a5, .slice a8 a1.length a9]] w fun e w' => ∃ c0 : Value, e = .returned (.agg #[.int .i64 r1, .int .i64 r2, .int .i64 r3, c0]) ∧ Kd.R Kd.string 9 w' w.heap.size (fun _ => True) c0 r4 ∧ Below w.heap.size w w' := by
 have d7 := Try.underlying41
 have c5 := zA b8
 have d8 := zA b9
 clear b8 b9
 have HB := zA (Below.refl w.heap.size w)
 unfold spec_l3Copy.f at h
 have H := h
 clear h
 obtain ⟨b2, b4⟩ : ∃ y_ : List ByteArray, y_ = (([] : List ByteArray)) := ⟨_, rfl⟩
 replace H : (if b2.length + a1.length < 8796093022208 then (some (a3, a4, a5, (b2 ++ a1))) else (none)) = some (r1, r2, r3, r4) := zY b4 H
 have c1 := zA b4
 clear b4
 replace H := zC0 H
 obtain ⟨c2, H⟩ := H
 have c6 := zA c2
 clear c2
 obtain ⟨b3, b5⟩ : ∃ y_ : List ByteArray, y_ = (b2 ++ a1) := ⟨_, rfl⟩
 replace H : (some (a3, a4, a5, b3)) = some (r1, r2, r3, r4) := zY b5 H
 have c7 := zA b5
 clear b5
 simp only [zU] at H
 obtain ⟨rfl, rfl, rfl, rfl⟩ := H
 go_enter Try.func77, Try.ntmps77
 go_wp2_with (first | ((with_reducible refine zd 1 ?_); refine ze 1 41 #[.int .i64 a3, .int .i64 a4, .int .i64 a5, .slice a8 a1.length a9] ?_; intro c8 hg w3 hbox hb; have a0 := zA (hbox); have d9 := zi HB hg; have e0 := zi HB hg; replace HB := zA (below_step (zB) hb); clear hb hbox hg) | ((with_reducible refine zd 2 ?_); refine ze 2 41 #[.int .i64 0, .int .i64 0, .int .i64 0, .slice none 0 0] ?_; intro a7 hg w4 hbox hb; have a2 := zA (hbox); have e1 := zi HB hg; have e2 := zi HB hg; replace HB := zh HB hb; have c9 := zA (zL hg (zK a0.out)); have d0 := zA (zJ hg (zK a0.out)); replace a0 := zb a0 hb; clear hb hbox hg; have e3 := c9.out; have e4 := d0.out; obtain ⟨e5, e6, e7, e8, e9, f0, f1, f2⟩ := ze4 a0.out) | ((with_reducible refine zd 3 ?_); refine ze 3 41 #[.int .i64 0, .int .i64 0, .int .i64 0, .slice none 0 0] ?_; intro c3 hg w7 hbox hb; have a6 := zA (hbox); have f3 := zi HB hg; have f4 := zi HB hg; replace HB := zh HB hb; have d1 := zA (zL hg (zK a0.out)); have d2 := zA (zJ hg (zK a0.out)); replace a0 := zb a0 hb; have d3 := zA (zL hg (zK a2.out)); have d4 := zA (zJ hg (zK a2.out)); replace a2 := zb a2 hb; clear hb hbox hg; have f5 := d2.out; have f6 := d1.out; have f7 := d4.out; have f8 := d3.out; obtain ⟨f9, g0, g1, g2, g3, g4, g5, g6⟩ := ze4 a6.out) | ((with_reducible refine gate_dst (N := 5) rfl ?_); refine Kd.R_lit Kd.string _ 9 ?hg (N := 5) ?hd (xs := ([] : List ByteArray)) (inner := []) (ok := fun _ => True) ?hr ?hp (fun _ hk => hk) trivial (Below.refl _ _) (Nat.le_refl _) (by simp) ?_; (case hd => rfl); (case hg => rfl); (case hr => first | (go_simp; done) | (go_simp; rfl)); (case hp => exact (Reps.none _ _)); intro d5 g7 b0 hb hg_ hnew_; clear hg_ hnew_; (first | rw [← c1.out] at b0 | (simp only [Int.reduceToNat] at b0; rw [← c1.out] at b0)); have b1 := zA (Kd.R_lower b0 (below_size (zW HB.out))); replace a0 := zb a0 hb; replace a2 := zb a2 hb; replace a6 := zA (blk_below (zk4 a6.out) hb); replace HB := zh HB hb; clear hb b0; obtain ⟨g8, g9, h0, h1, h2, h3, h4, h5⟩ := ze4 a0.out) | ((with_reducible refine gate_builtin (b := .append) (xs := #[.tmp 5, .tmp 7]) rfl ?_); at_builtin; refine Kd.R_append_rows Kd.string (w0 := w) w.heap.size rfl (.tmp 5) (.tmp 7) 23 9 (.string ⟨#[]⟩) 16 rfl Try.underlying23 info9 rfl (by decide) (by omega) d5 b2 a1 _ _ _ (fun _ => True) (fun _ => False) rfl rfl ?aO ?aR (fun _ _ h => h) (fun _ h => h.elim) ?aF ?aB ?aS ?aL ?_; (case aR => repeat (first | exact (Kd.C_below c5.out HB.out) | (with_reducible refine Kd.C_alloc ?_ _) | (with_reducible refine Kd.C_drewN ?_ _) | (with_reducible refine Kd.C_drew ?_))); (case aB => exact (zW HB.out)); (case aF => exact (fun _ _ => trivial)); (case aO => exact (zR b1.out)); (case aS => exact (below_size (zW HB.out))); (case aL => have := c6.out; omega); intro h6 h7 ho hb hg hat; rw [← c7.out] at ho; replace a0 := zA (blk_grown (g := c8) (o := .cells #[.int .i64 a3, .int .i64 a4, .int .i64 a5, .slice a8 a1.length a9] 41 (0, 0)) (zK a0.out) hg (Kd.R_ne b1.out a0.out (by decide))); replace a2 := zA (blk_grown (g := a7) (o := .cells #[.int .i64 0, .int .i64 0, .int .i64 0, .slice none 0 0] 41 (0, 0)) (zK a2.out) hg (Kd.R_ne b1.out a2.out (by decide))); replace a6 := zA (blk_grown (g := c3) (o := .cells #[.int .i64 a3, .int .i64 a4, .int .i64 a5, .slice a8 a1.length a9] 41 (0, 0)) (zK a6.out) hg (Kd.R_ne b1.out a6.out (by decide))); replace HB := zA (hb); have c4 := zA (ho); clear b1; clear ho hb hg hat; obtain ⟨b6, b7, d6⟩ := Kd.R_slice c4.out; subst d6; obtain ⟨h8, h9, i0, i1, i2, i3, i4, i5⟩ := ze4 a6.out; obtain ⟨i6, i7, i8, i9, j0, j1, j2, j3⟩ := ze4 a2.out))
 refine bodyPost_ret (results_cell_row rfl _ _ a7 41 #[.int .i64 a3, .int .i64 a4, .int .i64 a5, .slice b6 b3.length b7] (0, 0) _ rfl (zk4 a2.out) Try.underlying41 rfl (by kernel_rfl)) rfl ?_
 exact ⟨_, zE, zR (Kd.R_mono (Kd.R_far (p := ⟨a7, 3, none⟩) (Kd.R_far (p := ⟨a7, 2, none⟩) (Kd.R_far (p := ⟨a7, 1, none⟩) (Kd.R_far (p := ⟨a7, 0, none⟩) (Kd.R_far (p := ⟨c3, 3, none⟩) (Kd.R_types (Kd.R_types c4.out a6.out (by decide)) a2.out (by decide)) (fun _ hk => hk.1.2) (.slice b6 b3.length b7)) (fun _ hk => hk.2) (.int .i64 a3)) (fun _ hk => hk.2) (.int .i64 a4)) (fun _ hk => hk.2) (.int .i64 a5)) (fun _ hk => hk.2) (.slice b6 b3.length b7)) (fun _ hk => trivial)), zW HB.out⟩
/-! ### spec_l8Copy: function 52 -/
def spec_l8Copy.f (a3 : ByteArray) (a4 a5 a6 : Int) (a7 : List ByteArray) (a1 : List (S94)) : Option (ByteArray × Int × Int × Int × List ByteArray × (List (S94))) := (spec_l3Copy.f a4 a5 a6 a7).bind fun a0 => ((some (([] : List (S94)) : List (S94))).bind fun a2 => (if a2.length + a1.length < 4398046511104 then (some (a3, a0.1, a0.2.1, a0.2.2.1, a0.2.2.2, (a2 ++ a1))) else (none)))
def spec_l8Copy.T1 : Bool × List (List Nat × List Nat) := (true, [([], []), ([0], [0]), ([], []), ([2], [2]), ([3], [3]), ([], []), ([], []), ([6], [6]), ([5, 7, 4], [5, 7]), ([1, 4, 8], [1, 4, 8]), ([9, 8, 0, 1, 2, 3, 4, 5, 6, 7, 8, 9], [9])])
def spec_l8Copy.B1 : List Nat := [0, 1, 0, 4, 12, 0, 0, 64, 252, 511, 1023]
theorem spec_l8Copy.tab1 : rtab .any (opsOf Try.f52 1) = spec_l8Copy.T1 := by kernel_rfl
theorem spec_l8Copy.bits1 : waitsOk spec_l8Copy.T1.2 spec_l8Copy.B1 = true := by kernel_rfl
theorem spec_l8Copy.calls (a5 : ByteArray) (a8 a9 b0 : Int) (b1 : Option Addr) (b2 : Nat) (a6 : List ByteArray) (b7 : Option Addr) (b8 : Nat) (a7 : List (S94)) (r1 : ByteArray) (r2 r3 r4 : Int) (r5 : List ByteArray) (r6 : List (S94)) (w : World) (d5 : Kd.C Kd.string w b1 a6.length a6) (d6 : a6.length ≤ b2) (d7 : Kd.C k94 w b7 a7.length a7) (d8 : a7.length ≤ b8) (h : spec_l8Copy.f a5 a8 a9 b0 a6 a7 = some (r1, r2, r3, r4, r5, r6)) :
  Calls Try.prog 52 #[.agg #[.string a5, .int .i64 a8, .int .i64 a9, .int .i64 b0, .slice b1 a6.length b2, .slice b7 a7.length b8]] w fun e w' => ∃ d9 e0 : Value, e = .returned (.agg #[.string r1, .int .i64 r2, .int .i64 r3, .int .i64 r4, d9, e0]) ∧ Kd.R Kd.string 9 w' w.heap.size (fun _ => True) d9 r5 ∧ Kd.R k94 94 w' w.heap.size (fun _ => True) e0 r6 ∧ Below w.heap.size w w' := by
 have g0 := Try.underlying44
 have g1 := Try.underlying41
 have e1 := zA d5
 have e2 := zA d6
 clear d5 d6
 have f5 := zA d7
 have g2 := zA d8
 clear d7 d8
 have HB := zA (Below.refl w.heap.size w)
 unfold spec_l8Copy.f at h
 have H := h
 clear h
 replace H := Option.bind_eq_some_iff.mp H
 obtain ⟨⟨b5, b9, c0, c1⟩, e3, H⟩ := H
 try dsimp only at H
 have A2 := zA e3
 clear e3
 obtain ⟨c2, d1⟩ : ∃ y_ : List (S94), y_ = (([] : List (S94))) := ⟨_, rfl⟩
 replace H : (if c2.length + a7.length < 4398046511104 then (some (a5, b5, b9, c0, c1, (c2 ++ a7))) else (none)) = some (r1, r2, r3, r4, r5, r6) := zY d1 H
 have d0 := zA d1
 clear d1
 replace H := zC0 H
 obtain ⟨c3, H⟩ := H
 have f6 := zA c3
 clear c3
 obtain ⟨e4, d2⟩ : ∃ y_ : List (S94), y_ = (c2 ++ a7) := ⟨_, rfl⟩
 replace H : (some (a5, b5, b9, c0, c1, e4)) = some (r1, r2, r3, r4, r5, r6) := zY d2 H
 have f7 := zA d2
 clear d2
 simp only [zU] at H
 obtain ⟨rfl, rfl, rfl, rfl, rfl, rfl⟩ := H
 go_enter Try.func52, Try.ntmps52
 try go_wp2_with (first | ((with_reducible refine zd 1 ?_); refine ze 1 44 #[.string a5, .int .i64 a8, .int .i64 a9, .int .i64 b0, .slice b1 a6.length b2, .slice b7 a7.length b8] ?_; intro a3 hg w4 hbox hb; have a4 := zA (hbox); have g3 := zi HB hg; have g4 := zi HB hg; replace HB := zA (below_step (zB) hb); clear hb hbox hg) | ((with_reducible refine zd 2 ?_); refine ze 2 44 #[.string (⟨#[]⟩ : ByteArray), .int .i64 0, .int .i64 0, .int .i64 0, .slice none 0 0, .slice none 0 0] ?_; intro a1 hg w5 hbox hb; have a2 := zA (hbox); have g5 := zi HB hg; have g6 := zi HB hg; replace HB := zh HB hb; have a0 := zA (zL hg (zK a4.out)); have c4 := zA (zJ hg (zK a4.out)); replace a4 := zb a4 hb; clear hb hbox hg))
 replace a4 := zA (blk_drew a4.out)
 replace a2 := zA (blk_drew a2.out)
 replace HB := zA (below_drew1 HB.out)
 refine start_ (n := 11) (S := fun w' => w'.cell? ⟨a3, 0, none⟩ = some (.string a5) ∧ w'.cell? ⟨a3, 1, none⟩ = some (.int .i64 a8) ∧ w'.cell? ⟨a3, 2, none⟩ = some (.int .i64 a9) ∧ w'.cell? ⟨a3, 3, none⟩ = some (.int .i64 b0) ∧ w'.cell? ⟨a3, 4, none⟩ = some (.slice b1 a6.length b2) ∧ w'.cell? ⟨a3, 5, none⟩ = some (.slice b7 a7.length b8)) (ds := []) (Array.replicate 11 false) (by kernel_rfl) rfl rfl zO fun hHeld => ?_; refine with_tabW spec_l8Copy.tab1 spec_l8Copy.bits1 (fun HT_ HW_ => ?_)
 generalize w5.drew = w6 at a4 a2 HB hHeld ⊢
 refine zp 0 3 ?_
 refine zp 2 5 ?_
 refine zp 6 9 ?_
 refine zt 1 4 ?_
 refine zt 3 6 ?_
 refine zt 7 10 ?_
 refine join_ (σ := Value × Value) 3 #[true, true, true, true, true, true, true, true, false, false, false] (fun s_ => [(7, .agg #[.int .i64 b5, .int .i64 b9, .int .i64 c0, s_.1]), (8, s_.2)]) (fun s_ w' => (w'.cell? ⟨a3, 0, none⟩ = some (.string a5) ∧ w'.cell? ⟨a3, 1, none⟩ = some (.int .i64 a8) ∧ w'.cell? ⟨a3, 2, none⟩ = some (.int .i64 a9) ∧ w'.cell? ⟨a3, 3, none⟩ = some (.int .i64 b0) ∧ w'.cell? ⟨a3, 4, none⟩ = some (.slice b1 a6.length b2) ∧ w'.cell? ⟨a3, 5, none⟩ = some (.slice b7 a7.length b8)) ∧ (Kd.R Kd.string 9 w' w.heap.size (fun _ => True) s_.1 c1) ∧ (Kd.R k94 94 w' w.heap.size (fun _ => True) s_.2 c2) ∧ (w'.heap[a3]? = some (.cells #[.string a5, .int .i64 a8, .int .i64 a9, .int .i64 b0, .slice b1 a6.length b2, .slice b7 a7.length b8] 44 (0, 0))) ∧ (w'.heap[a1]? = some (.cells #[.string (⟨#[]⟩ : ByteArray), .int .i64 0, .int .i64 0, .int .i64 0, .slice none 0 0, .slice none 0 0] 44 (0, 0))) ∧ (Below w.heap.size w w')) ?_ ?_
 rotate_left
 ·intro hCont
  refine two_ (i := 4) (j := 5) (Ni := some 7) (Nj := some 8) #[true, true, true, true, true, false, true, true, false, false, false] #[true, true, true, true, false, true, true, true, false, false, false] rfl rfl rfl rfl (two_of HT_.out (by kernel_rfl)) (by decide) (by decide) (fun K hK => ?_) (fun K hK => ?_)
  ·skip
   refine goes_ Try.func77 (by kernel_rfl) rfl #[.agg #[.int .i64 a8, .int .i64 a9, .int .i64 b0, .slice b1 a6.length b2]] (by rfl) rfl rfl zM ?_
   with_reducible refine (spec_l3Copy.calls a8 a9 b0 _ _ a6 b5 b9 c0 c1 _ ?s1 ?s2 A2.out).mono ?_
   (case s1 => exact zC (Kd.C_below e1.out HB.out))
   (case s2 => exact e2.out)
   rintro e w7 ⟨c6, rfl, c7, hb⟩
   refine ⟨_, rfl, ?_⟩
   have b6 := zA (Kd.R_lower c7 (below_size (zW HB.out))); replace a4 := zb a4 hb; replace a2 := zb a2 hb; replace HB := zh HB hb
   (try clear hb c7)
   refine hK.out _ _ zO fun hHeld => ?_
   clear hK K; refine zn ?_
   refine zo 5 (some 8) fun K hK => ?_
   refine Kd.R_lit_step k94 _ 94 ?hg (N := 8) ?hd (xs := ([] : List (S94))) (inner := []) (ok := fun _ => True) ?hr ?hp (fun _ hk => hk) trivial (Below.refl _ _) (Nat.le_refl _) (by simp) ?_; (case hd => rfl); (case hg => rfl); (case hr => first | (go_simp; done) | (go_simp; rfl)); (case hp => exact (Reps.none _ _))
   intro c5 w8 c8 hb hg_ hnew_
   clear hg_ hnew_
   (first | rw [← d0.out] at c8 | (simp only [Int.reduceToNat] at c8; rw [← d0.out] at c8))
   replace b6 := zr b6 hb; have b3 := zA (Kd.R_lower c8 (below_size (zW HB.out))); replace a4 := zb a4 hb; replace a2 := zb a2 hb; replace HB := zh HB hb; clear hb c8
   refine hK.out _ _ zO fun hHeld => ?_
   clear hK K; refine zn ?_
   exact norm_ (by simp only [putAll, Act.put, zT]) (hCont (c6, c5) _ ⟨hHeld, (zR b6.out), (zR b3.out), (zK a4.out), (zK a2.out), (zW HB.out)⟩)
  ·skip
   refine Kd.R_lit_step k94 _ 94 ?hg (N := 8) ?hd (xs := ([] : List (S94))) (inner := []) (ok := fun _ => True) ?hr ?hp (fun _ hk => hk) trivial (Below.refl _ _) (Nat.le_refl _) (by simp) ?_; (case hd => rfl); (case hg => rfl); (case hr => first | (go_simp; done) | (go_simp; rfl)); (case hp => exact (Reps.none _ _))
   intro c5 w7 c9 hb hg_ hnew_
   clear hg_ hnew_
   (first | rw [← d0.out] at c9 | (simp only [Int.reduceToNat] at c9; rw [← d0.out] at c9))
   have b3 := zA (Kd.R_lower c9 (below_size (zW HB.out))); replace a4 := zb a4 hb; replace a2 := zb a2 hb; replace HB := zh HB hb; clear hb c9
   refine hK.out _ _ zO fun hHeld => ?_
   clear hK K; refine zn ?_
   refine zo 4 (some 7) fun K hK => ?_
   refine goes_ Try.func77 (by kernel_rfl) rfl #[.agg #[.int .i64 a8, .int .i64 a9, .int .i64 b0, .slice b1 a6.length b2]] (by rfl) rfl rfl zM ?_
   with_reducible refine (spec_l3Copy.calls a8 a9 b0 _ _ a6 b5 b9 c0 c1 _ ?s1 ?s2 A2.out).mono ?_
   (case s1 => exact zC (Kd.C_below e1.out HB.out))
   (case s2 => exact e2.out)
   rintro e w9 ⟨c6, rfl, c7, hb⟩
   refine ⟨_, rfl, ?_⟩
   replace b3 := zr b3 hb; have b6 := zA (Kd.R_lower c7 (below_size (zW HB.out))); replace a4 := zb a4 hb; replace a2 := zb a2 hb; replace HB := zh HB hb
   (try clear hb c7)
   refine hK.out _ _ zO fun hHeld => ?_
   clear hK K; refine zn ?_
   exact norm_ (by simp only [putAll, Act.put, zT]) (hCont (c6, c5) _ ⟨hHeld, (zR b6.out), (zR b3.out), (zK a4.out), (zK a2.out), (zW HB.out)⟩)
 rintro ⟨c6, c5⟩ b4 ⟨hS_, e5, e6, e7, e8, e9⟩
 have b6 : Aside0 (Kd.R Kd.string 9 b4 w.heap.size (fun _ => True) c6 c1) := ⟨e5⟩
 have b3 : Aside0 (Kd.R k94 94 b4 w.heap.size (fun _ => True) c5 c2) := ⟨e6⟩
 replace a4 : Aside0 (b4.heap[a3]? = some (.cells #[.string a5, .int .i64 a8, .int .i64 a9, .int .i64 b0, .slice b1 a6.length b2, .slice b7 a7.length b8] 44 (0, 0))) := ⟨e7⟩
 replace a2 : Aside0 (b4.heap[a1]? = some (.cells #[.string (⟨#[]⟩ : ByteArray), .int .i64 0, .int .i64 0, .int .i64 0, .slice none 0 0, .slice none 0 0] 44 (0, 0))) := ⟨e8⟩
 replace HB : Aside0 (Below w.heap.size w b4) := ⟨e9⟩
 clear e5 e6 e7 e8 e9
 have hHeld : b4.cell? ⟨a3, 0, none⟩ = some (.string a5) ∧ b4.cell? ⟨a3, 1, none⟩ = some (.int .i64 a8) ∧ b4.cell? ⟨a3, 2, none⟩ = some (.int .i64 a9) ∧ b4.cell? ⟨a3, 3, none⟩ = some (.int .i64 b0) ∧ b4.cell? ⟨a3, 4, none⟩ = some (.slice b1 a6.length b2) ∧ b4.cell? ⟨a3, 5, none⟩ = some (.slice b7 a7.length b8) := hS_
 refine norm_ (a' := ?_) ?_ ?_
 rotate_left
 ·simp only [putAll, Act.put, zT]
  rfl
 refine zo 8 (some 11) fun K hK => ?_
 refine Kd.R_append_rows_step k94 (w0 := w) w.heap.size (by rfl) (.tmp 8) (.tmp 10) 42 94 (.agg #[(.string ⟨#[]⟩), (.string ⟨#[]⟩)]) 32 rfl Try.underlying42 info94 rfl (by decide) (by omega) c5 c2 a7 _ _ _ (fun _ => True) (fun _ => False) rfl rfl ?aO ?aR (fun _ _ h => h) (fun _ h => h.elim) ?aF ?aB ?aS ?aL ?_
 (case aR => repeat (first | exact (Kd.C_below f5.out HB.out) | (with_reducible refine Kd.C_alloc ?_ _) | (with_reducible refine Kd.C_drewN ?_ _) | (with_reducible refine Kd.C_drew ?_)))
 (case aB => exact (zW HB.out))
 (case aF => exact (fun _ _ => trivial))
 (case aO => exact (zR b3.out))
 (case aS => exact (below_size (zW HB.out)))
 (case aL => have := f6.out; omega)
 intro g7 g8 ho hb hg hat
 rw [← f7.out] at ho
 replace a4 := zA (blk_grown (g := a3) (o := .cells #[.string a5, .int .i64 a8, .int .i64 a9, .int .i64 b0, .slice b1 a6.length b2, .slice b7 a7.length b8] 44 (0, 0)) (zK a4.out) hg (Kd.R_ne b3.out a4.out (by decide)))
 replace a2 := zA (blk_grown (g := a1) (o := .cells #[.string (⟨#[]⟩ : ByteArray), .int .i64 0, .int .i64 0, .int .i64 0, .slice none 0 0, .slice none 0 0] 44 (0, 0)) (zK a2.out) hg (Kd.R_ne b3.out a2.out (by decide)))
 replace b6 := zA (Kd.R_over' (zR b6.out) (Kd.R_typed (zR b3.out)) (by decide) hg)
 replace HB := zA (hb)
 have f0 := zA (ho)
 clear b3
 clear ho hb hg hat
 obtain ⟨f8, f9, f1⟩ := Kd.R_slice f0.out
 (first | subst f1 | (injection f1 with f1_ f2_ f3_; have d3 := f1_.symm; have d4 := f3_.symm; clear f1_ f2_ f3_; subst d3; subst d4))
 obtain ⟨f2, f3, f4⟩ := Kd.R_slice b6.out
 (first | subst f4 | (injection f4 with f1_ f2_ f3_; have d3 := f1_.symm; have d4 := f3_.symm; clear f1_ f2_ f3_; subst d3; subst d4))
 refine hK.out _ _ zO fun hHeld => ?_
 clear hK K
 refine zn ?_
 refine zp 9 12 ?_
 refine zo 10 none fun K hK => ?_
 have g9 := zc0 a2.out
 have h0 := zF a2.out 0
 have h1 := a0.out
 have h2 := c4.out
 have h3 := zc1 a2.out
 have h4 := zF a2.out 1
 have h5 := a0.out
 have h6 := c4.out
 have h7 := zc2 a2.out
 have h8 := zF a2.out 2
 have h9 := a0.out
 have i0 := c4.out
 have i1 := zc3 a2.out
 have i2 := zF a2.out 3
 have i3 := a0.out
 have i4 := c4.out
 have i5 := zc4 a2.out
 have i6 := zF a2.out 4
 have i7 := a0.out
 have i8 := c4.out
 have i9 := zc5 a2.out
 have j0 := zF a2.out 5
 have j1 := a0.out
 have j2 := c4.out
 refine skip_ (w1 := ?_) (by rfl) rfl ?_ ?_
 rotate_left
 ·go_simp
  rfl
 refine hK.out _ _ ⟨((cell_far (p := ⟨a1, _, none⟩) a0.out _).trans (((cell_far (p := ⟨a1, _, none⟩) a0.out _).trans (((cell_far (p := ⟨a1, _, none⟩) a0.out _).trans (((cell_far (p := ⟨a1, _, none⟩) a0.out _).trans (((cell_far (p := ⟨a1, _, none⟩) a0.out _).trans (((cell_far (p := ⟨a1, _, none⟩) a0.out _).trans (hHeld.1)))))))))))), ((cell_far (p := ⟨a1, _, none⟩) a0.out _).trans (((cell_far (p := ⟨a1, _, none⟩) a0.out _).trans (((cell_far (p := ⟨a1, _, none⟩) a0.out _).trans (((cell_far (p := ⟨a1, _, none⟩) a0.out _).trans (((cell_far (p := ⟨a1, _, none⟩) a0.out _).trans (((cell_far (p := ⟨a1, _, none⟩) a0.out _).trans (hHeld.2.1)))))))))))), ((cell_far (p := ⟨a1, _, none⟩) a0.out _).trans (((cell_far (p := ⟨a1, _, none⟩) a0.out _).trans (((cell_far (p := ⟨a1, _, none⟩) a0.out _).trans (((cell_far (p := ⟨a1, _, none⟩) a0.out _).trans (((cell_far (p := ⟨a1, _, none⟩) a0.out _).trans (((cell_far (p := ⟨a1, _, none⟩) a0.out _).trans (hHeld.2.2.1)))))))))))), ((cell_far (p := ⟨a1, _, none⟩) a0.out _).trans (((cell_far (p := ⟨a1, _, none⟩) a0.out _).trans (((cell_far (p := ⟨a1, _, none⟩) a0.out _).trans (((cell_far (p := ⟨a1, _, none⟩) a0.out _).trans (((cell_far (p := ⟨a1, _, none⟩) a0.out _).trans (((cell_far (p := ⟨a1, _, none⟩) a0.out _).trans (hHeld.2.2.2.1)))))))))))), ((cell_far (p := ⟨a1, _, none⟩) a0.out _).trans (((cell_far (p := ⟨a1, _, none⟩) a0.out _).trans (((cell_far (p := ⟨a1, _, none⟩) a0.out _).trans (((cell_far (p := ⟨a1, _, none⟩) a0.out _).trans (((cell_far (p := ⟨a1, _, none⟩) a0.out _).trans (((cell_far (p := ⟨a1, _, none⟩) a0.out _).trans (hHeld.2.2.2.2.1)))))))))))), ((cell_far (p := ⟨a1, _, none⟩) a0.out _).trans (((cell_far (p := ⟨a1, _, none⟩) a0.out _).trans (((cell_far (p := ⟨a1, _, none⟩) a0.out _).trans (((cell_far (p := ⟨a1, _, none⟩) a0.out _).trans (((cell_far (p := ⟨a1, _, none⟩) a0.out _).trans (((cell_far (p := ⟨a1, _, none⟩) a0.out _).trans (hHeld.2.2.2.2.2))))))))))))⟩ (fun hHeld => ?_)
 clear hK K
 refine done_ (done_of HT_.out (by kernel_rfl)) ?_
 try go_wp2
 refine bodyPost_ret (results_cell_row rfl _ _ a1 44 #[.string a5, .int .i64 b5, .int .i64 b9, .int .i64 c0, .slice f2 c1.length f3, .slice f8 e4.length f9] (0, 0) _ rfl (by (with_reducible repeat (first | refine blk_drewN ?_ _ | refine blk_drew ?_ | refine blk_alloc ?_ _)); refine blk_put (cs := #[.string a5, .int .i64 b5, .int .i64 b9, .int .i64 c0, .slice f2 c1.length f3, .slice none 0 0]) ?_ 5 _ rfl; (with_reducible repeat (first | refine blk_drewN ?_ _ | refine blk_drew ?_ | refine blk_alloc ?_ _)); refine blk_put (cs := #[.string a5, .int .i64 b5, .int .i64 b9, .int .i64 c0, .slice none 0 0, .slice none 0 0]) ?_ 4 _ rfl; (with_reducible repeat (first | refine blk_drewN ?_ _ | refine blk_drew ?_ | refine blk_alloc ?_ _)); refine blk_put (cs := #[.string a5, .int .i64 b5, .int .i64 b9, .int .i64 0, .slice none 0 0, .slice none 0 0]) ?_ 3 _ rfl; (with_reducible repeat (first | refine blk_drewN ?_ _ | refine blk_drew ?_ | refine blk_alloc ?_ _)); refine blk_put (cs := #[.string a5, .int .i64 b5, .int .i64 0, .int .i64 0, .slice none 0 0, .slice none 0 0]) ?_ 2 _ rfl; (with_reducible repeat (first | refine blk_drewN ?_ _ | refine blk_drew ?_ | refine blk_alloc ?_ _)); refine blk_put (cs := #[.string a5, .int .i64 0, .int .i64 0, .int .i64 0, .slice none 0 0, .slice none 0 0]) ?_ 1 _ rfl; (with_reducible repeat (first | refine blk_drewN ?_ _ | refine blk_drew ?_ | refine blk_alloc ?_ _)); refine blk_put (cs := #[.string (⟨#[]⟩ : ByteArray), .int .i64 0, .int .i64 0, .int .i64 0, .slice none 0 0, .slice none 0 0]) ?_ 0 _ rfl; (with_reducible repeat (first | refine blk_drewN ?_ _ | refine blk_drew ?_ | refine blk_alloc ?_ _)); exact a2.out) Try.underlying44 rfl (by kernel_rfl)) rfl ?_
 exact ⟨_, _, zE, zR (Kd.R_mono (zr6 b6.out a2.out) (fun _ hk => trivial)), zR (Kd.R_mono (zr6 f0.out a2.out) (fun _ hk => trivial)), zW HB.out⟩
/-! ### spec_EntryOf: function 16 -/
mutual
def spec_EntryOf.l0 : Nat → List (S44) → ByteArray → Int → Int → Int → Int → List ByteArray → Option (ByteArray × Int × Int × Int × List ByteArray × (List (S94)) × Bool)
 | 0, _, _, _, _, _, _, _ => none
 | k + 1, x0, x1, x8, a1, a2, a3, a4 => if x8 < (x0.length : Int) then (spec_EntryOf.j1 k x0 x1 x8 a1 a2 a3 a4) else (some ((⟨#[]⟩ : ByteArray), 0, 0, 0, ([] : List ByteArray), ([] : List (S94)), false))
def spec_EntryOf.j1 : Nat → List (S44) → ByteArray → Int → Int → Int → Int → List ByteArray → Option (ByteArray × Int × Int × Int × List ByteArray × (List (S94)) × Bool)
 | 0, _, _, _, _, _, _, _ => none
 | k + 1, x0, x1, x8, a1, a2, a3, a4 => if 0 ≤ x8 then (if x8 < (x0.length : Int) then (if ((rd_T44 x0 x8).f0).toList = x1.toList then ((spec_SameVer.f k ((rd_T44 x0 x8).f1.f0) ((rd_T44 x0 x8).f1.f1) ((rd_T44 x0 x8).f1.f2) ((rd_T44 x0 x8).f1.f3) a1 a2 a3 a4).bind fun a5 => (if a5 = true then ((spec_l8Copy.f ((rd_T44 x0 x8).f0) ((rd_T44 x0 x8).f1.f0) ((rd_T44 x0 x8).f1.f1) ((rd_T44 x0 x8).f1.f2) ((rd_T44 x0 x8).f1.f3) ((rd_T44 x0 x8).f2)).bind fun a0 => (some (a0.1, a0.2.1, a0.2.2.1, a0.2.2.2.1, a0.2.2.2.2.1, a0.2.2.2.2.2, true))) else (spec_EntryOf.l0 k x0 x1 (wrap64 (x8 + 1)) a1 a2 a3 a4))) else (spec_EntryOf.l0 k x0 x1 (wrap64 (x8 + 1)) a1 a2 a3 a4)) else (none)) else (none)
end
def spec_EntryOf.f (k : Nat) (l0 : List (S44)) (a1 : ByteArray) (a0 a2 a3 : Int) (a4 : List ByteArray) : Option (ByteArray × Int × Int × Int × List ByteArray × (List (S94)) × Bool) := spec_EntryOf.l0 k l0 a1 0 a0 a2 a3 a4
def spec_EntryOf.T4 : Bool × List (List Nat × List Nat) := (true, [([], []), ([], []), ([0, 1], [0, 1]), ([2], [2]), ([3], [3]), ([], []), ([4, 5], [4, 5]), ([6], [6]), ([7], [7]), ([7], [7]), ([8, 9, 7], [7, 8, 9]), ([10, 7], [7, 10]), ([11, 7], [7, 11]), ([7], [7]), ([12, 13, 7, 7], [7, 12, 13]), ([7, 14], [7, 14])])
def spec_EntryOf.B4 : List Nat := [0, 0, 3, 7, 15, 0, 63, 127, 255, 255, 1023, 2047, 4095, 255, 16383, 32767]
theorem spec_EntryOf.tab4 : rtab .any (opsOf Try.f16 4) = spec_EntryOf.T4 := by kernel_rfl
theorem spec_EntryOf.bits4 : waitsOk spec_EntryOf.T4.2 spec_EntryOf.B4 = true := by kernel_rfl
theorem spec_EntryOf.calls (k : Nat) (A0 : Option Addr) (c0 : Nat) (l0 : List (S44)) (a1 : ByteArray) (b2 b3 b4 : Int) (c5 : Option Addr) (c6 : Nat) (a7 : List ByteArray) (r1 : ByteArray) (r2 r3 r4 : Int) (r5 : List ByteArray) (r6 : List (S94)) (r7 : Bool) (w : World) (h5 : Kd.C k44 w A0 l0.length l0) (h6 : l0.length ≤ c0) (h7 : Kd.C Kd.string w c5 a7.length a7) (h8 : a7.length ≤ c6) (h : spec_EntryOf.f k l0 a1 b2 b3 b4 a7 = some (r1, r2, r3, r4, r5, r6, r7)) :
  Calls Try.prog 16 #[.slice A0 l0.length c0, .string a1, .agg #[.int .i64 b2, .int .i64 b3, .int .i64 b4, .slice c5 a7.length c6]] w fun e w' => ∃ h9 i0 : Value, e = .returned (.tuple #[.agg #[.string r1, .int .i64 r2, .int .i64 r3, .int .i64 r4, h9, i0], .bool r7]) ∧ Kd.R Kd.string 9 w' w.heap.size (fun _ => True) h9 r5 ∧ Kd.R k94 94 w' w.heap.size (fun _ => True) i0 r6 ∧ Below w.heap.size w w' := by
 have q0 := Try.underlying41
 have q1 := Try.underlying44
 have e4 := zA h5
 have q2 := zA h6
 clear h5 h6
 have i1 := zA h7
 have i2 := zA h8
 clear h7 h8
 have HB := zA (Below.refl w.heap.size w)
 unfold spec_EntryOf.f at h
 have H := h
 clear h
 have H' := zA H
 clear H
 go_enter Try.func16, Try.ntmps16
 go_wp2_with (first | ((with_reducible refine zd 5 ?_); refine ze 5 41 #[.int .i64 b2, .int .i64 b3, .int .i64 b4, .slice c5 a7.length c6] ?_; intro b9 hg w4 hbox hb; have a4 := zA (hbox); have q3 := zi HB hg; have q4 := zi HB hg; replace HB := zA (below_step (zB) hb); clear hb hbox hg) | ((with_reducible refine zd 6 ?_); refine ze 6 44 #[.string (⟨#[]⟩ : ByteArray), .int .i64 0, .int .i64 0, .int .i64 0, .slice none 0 0, .slice none 0 0] ?_; intro g1 hg w5 hbox hb; have a3 := zA (hbox); have q5 := zi HB hg; have q6 := zi HB hg; replace HB := zh HB hb; have i3 := zA (zL hg (zK a4.out)); have i4 := zA (zJ hg (zK a4.out)); replace a4 := zb a4 hb; clear hb hbox hg))
 go_loopg [8] k (fun kq v8 w' => ∃ (a0 : Int) (e5 : ByteArray) (e1 : Int) (d4 : Int) (c9 : Int), v8 = .int .i64 a0 ∧ Aside0 (spec_EntryOf.l0 kq l0 a1 a0 b2 b3 b4 a7 = some (r1, r2, r3, r4, r5, r6, r7)) ∧ Aside0 (kq ≤ k) ∧ Aside0 (w'.heap[b9]? = some (.cells #[.int .i64 b2, .int .i64 b3, .int .i64 b4, (.slice c5 a7.length c6)] 41 (0, 0))) ∧ Aside0 (w'.heap[g1]? = some (.cells #[.string e5, .int .i64 e1, .int .i64 d4, .int .i64 c9, (.slice none 0 0), (.slice none 0 0)] 44 (0, 0))) ∧ Aside0 (Below w.heap.size w w'))
 case atStart => exact ⟨(0), ((⟨#[]⟩ : ByteArray)), (0), (0), (0), zS, H', ⟨Nat.le_refl _⟩, ⟨zK a4.out⟩, ⟨zK a3.out⟩, ⟨zW HB.out⟩⟩
 case round =>
  clear H'
  try clear c1
  try clear c2
  try clear p2
  obtain ⟨a0, e5, e1, d4, c9, rfl, HA, e8, a4, a3, HB⟩ := hrel
  cases gk with
  | zero => exact absurd HA.out (by simp [spec_EntryOf.l0])
  | succ k1 =>
   have H := HA.out; clear HA; simp only [spec_EntryOf.l0] at H; have g4 := zA H; clear H
   go_upto_if 12 with (fail)
   go_cut [] (fun wc => ∃ (kq : Nat), Aside0 (spec_EntryOf.j1 kq l0 a1 a0 b2 b3 b4 a7 = some (r1, r2, r3, r4, r5, r6, r7)) ∧ Aside0 (kq ≤ k1) ∧ Aside0 (wc.heap[b9]? = some (.cells #[.int .i64 b2, .int .i64 b3, .int .i64 b4, (.slice c5 a7.length c6)] 41 (0, 0))) ∧ Aside0 (wc.heap[g1]? = some (.cells #[.string e5, .int .i64 e1, .int .i64 d4, .int .i64 c9, (.slice none 0 0), (.slice none 0 0)] 44 (0, 0))) ∧ Aside0 (Below w.heap.size w wc))
   case first =>
    have H := g4.out; clear g4; replace H := zI0 H
    rcases H with ⟨e6, H⟩ | ⟨e6, H⟩
    ·(first | rw [e6] | (simp only [i64_w, i32_w]; rw [e6]) | skip)
     have H' := zA H; clear H
     go_wp2
     go_meet
     case rel => exact ⟨_, (by first | exact H' | (subst_vars; exact H')), ⟨by have := e8.out; first | omega | exact Nat.le_refl _⟩, ⟨zK a4.out⟩, ⟨zK a3.out⟩, ⟨zW HB.out⟩⟩
    (first | rw [e6] | (simp only [i64_w, i32_w]; rw [e6]) | skip)
    simp only [zU] at H; obtain ⟨rfl, rfl, rfl, rfl, rfl, rfl, rfl⟩ := H; have q7 := i4.out; have q8 := i3.out; obtain ⟨l7, l8, l9, m0, m1, m2, m3, m4, m5, m6, m7, m8⟩ := ze6 a3.out
    go_wp2
    refine bodyPost_ret (results_ct rfl _ _ g1 44 #[.string (⟨#[]⟩ : ByteArray), .int .i64 0, .int .i64 0, .int .i64 0, .slice none 0 0, .slice none 0 0] (0, 0) _ rfl (by (with_reducible repeat (first | refine blk_drewN ?_ _ | refine blk_drew ?_ | refine blk_alloc ?_ _)); refine blk_put (cs := #[.string (⟨#[]⟩ : ByteArray), .int .i64 0, .int .i64 0, .int .i64 0, .slice none 0 0, .slice none 0 0]) ?_ 5 _ rfl; (with_reducible repeat (first | refine blk_drewN ?_ _ | refine blk_drew ?_ | refine blk_alloc ?_ _)); refine blk_put (cs := #[.string (⟨#[]⟩ : ByteArray), .int .i64 0, .int .i64 0, .int .i64 0, .slice none 0 0, .slice none 0 0]) ?_ 4 _ rfl; (with_reducible repeat (first | refine blk_drewN ?_ _ | refine blk_drew ?_ | refine blk_alloc ?_ _)); refine blk_put (cs := #[.string (⟨#[]⟩ : ByteArray), .int .i64 0, .int .i64 0, .int .i64 c9, .slice none 0 0, .slice none 0 0]) ?_ 3 _ rfl; (with_reducible repeat (first | refine blk_drewN ?_ _ | refine blk_drew ?_ | refine blk_alloc ?_ _)); refine blk_put (cs := #[.string (⟨#[]⟩ : ByteArray), .int .i64 0, .int .i64 d4, .int .i64 c9, .slice none 0 0, .slice none 0 0]) ?_ 2 _ rfl; (with_reducible repeat (first | refine blk_drewN ?_ _ | refine blk_drew ?_ | refine blk_alloc ?_ _)); refine blk_put (cs := #[.string (⟨#[]⟩ : ByteArray), .int .i64 e1, .int .i64 d4, .int .i64 c9, .slice none 0 0, .slice none 0 0]) ?_ 1 _ rfl; (with_reducible repeat (first | refine blk_drewN ?_ _ | refine blk_drew ?_ | refine blk_alloc ?_ _)); refine blk_put (cs := #[.string e5, .int .i64 e1, .int .i64 d4, .int .i64 c9, .slice none 0 0, .slice none 0 0]) ?_ 0 _ rfl; (with_reducible repeat (first | refine blk_drewN ?_ _ | refine blk_drew ?_ | refine blk_alloc ?_ _)); exact a3.out) Try.underlying44 rfl (by kernel_rfl)) rfl ?_
    exact ⟨_, _, zE, by first | exact Kd.R_nil _ _ _ _ _ | exact Kd.N_nil _ _ _ _ _ | exact Kd.V_nil _ _ _ _ _ | exact Kd.Q_nil _ _ _ _ _ | exact Kd.S_nil _ _ _ _ _, by first | exact Kd.R_nil _ _ _ _ _ | exact Kd.N_nil _ _ _ _ _ | exact Kd.V_nil _ _ _ _ _ | exact Kd.Q_nil _ _ _ _ _ | exact Kd.S_nil _ _ _ _ _, zW HB.out⟩
   case rest =>
    clear g4
    try clear c1
    try clear c2
    try clear p2
    try clear c7
    try clear e6
    try clear c8
    try clear l7 l8 l9 m0 m1 m2 m3 m4 m5 m6 m7 m8
    try clear p2
    obtain ⟨kq, HA, g2, a4, a3, HB⟩ := hcut
    cases kq with
    | zero => exact absurd HA.out (by simp [spec_EntryOf.j1])
    | succ g3 =>
     have H := HA.out; clear HA; simp only [spec_EntryOf.j1] at H; replace H := zD0 H; obtain ⟨q9, H⟩ := H; replace H := zD0 H; obtain ⟨r0, H⟩ := H; replace H := zI1 H
     rcases H with ⟨e7, H⟩ | ⟨e7, H⟩
     ·have m9 := beq_iff_eq.mpr e7; have n0 := bne_eq_false_iff_eq.mpr e7; clear e7; replace H := Option.bind_eq_some_iff.mp H; obtain ⟨r8, i5, H⟩ := H
      try dsimp only at H
      have i6 := zA i5; clear i5; replace H := zB0 H
      rcases H with ⟨rfl, H⟩ | ⟨rfl, H⟩
      ·replace H := Option.bind_eq_some_iff.mp H; obtain ⟨⟨i7, i8, i9, j0, j2, j3⟩, j4, H⟩ := H
       try dsimp only at H
       have n1 := zA j4; clear j4; simp only [zU] at H; obtain ⟨rfl, rfl, rfl, rfl, rfl, rfl, rfl⟩ := H
       try go_wp2
       replace a4 := zA (blk_drew a4.out); replace a3 := zA (blk_drew a3.out); replace HB := zA (below_drew1 HB.out); have b7 : 0 ≤ (a0 : Int) := zD; have b8 : a0 < (l0.length : Int) := zD; obtain ⟨a2, c3, c4, d5, d6, e9, a8, a9, b0, b1, a5, a6, d7, d8, d9, e0⟩ := at_T44 e4.out a0 b7 b8; have g5 := zA a5; have g6 := zA a6; have j5 := a6; have j6 := a5; have j7 := b1; have j8 := b0; have j9 := a9; have k0 := a8; cases e9; replace a8 := zx HB a8; replace a9 := zx HB a9; replace b0 := zx HB b0; replace b1 := zx HB b1; replace a5 := zx HB a5; replace a6 := zx HB a6; have f4 := zA d8; have k2 := zA d7; clear d8 d7; have f5 := zA e0; have k3 := zA d9; clear e0 d9; replace b7 := eq_true b7; replace b8 := eq_true b8; have e2 : 0 ≤ (a0 : Int) := zD; have e3 : a0 < (l0.length : Int) := zD; obtain ⟨g7, n2, n3, n4, n5, g8, d0, d1, d2, d3, b5, b6, f6, f7, f8, f9⟩ := at_T44 e4.out a0 e2 e3; have n6 := zA b5; have n7 := zA b6; have n8 := b6; have n9 := b5; have o0 := d3; have o1 := d2; have o2 := d1; have o3 := d0; obtain rfl : a2 = g7 := (by injection g8); replace d0 := zx HB d0; replace d1 := zx HB d1; replace d2 := zx HB d2; replace d3 := zx HB d3; replace b5 := zx HB b5; replace b6 := zx HB b6; have g0 := zA f7; have g9 := zA f6; clear f7 f6; have h0 := zA f9; have o4 := zA f8; clear f9 f8; replace e2 := eq_true e2; replace e3 := eq_true e3; have ea_ := Option.some.inj (a5.symm.trans b5); injection ea_ with ea_ en_ ec_; subst ea_; subst ec_; clear en_; have ea_ := Option.some.inj (a6.symm.trans b6); injection ea_ with ea_ en_ ec_; subst ea_; subst ec_; clear en_
       refine start_ (n := 16) (S := fun w' => w'.cell? ⟨b9, 0, none⟩ = some (.int .i64 b2) ∧ w'.cell? ⟨b9, 1, none⟩ = some (.int .i64 b3) ∧ w'.cell? ⟨b9, 2, none⟩ = some (.int .i64 b4) ∧ w'.cell? ⟨b9, 3, none⟩ = some (.slice c5 a7.length c6) ∧ w'.cell? (a2.add ((a0).toNat * 6)) = some (.string ((rd_T44 l0 a0).f0)) ∧ w'.cell? ⟨(a2.add ((a0).toNat * 6)).block, (a2.add ((a0).toNat * 6)).off + 1, none⟩ = some (.int .i64 ((rd_T44 l0 a0).f1.f0)) ∧ w'.cell? ⟨(a2.add ((a0).toNat * 6)).block, (a2.add ((a0).toNat * 6)).off + 2, none⟩ = some (.int .i64 ((rd_T44 l0 a0).f1.f1)) ∧ w'.cell? ⟨(a2.add ((a0).toNat * 6)).block, (a2.add ((a0).toNat * 6)).off + 3, none⟩ = some (.int .i64 ((rd_T44 l0 a0).f1.f2)) ∧ w'.cell? ⟨(a2.add ((a0).toNat * 6)).block, (a2.add ((a0).toNat * 6)).off + 4, none⟩ = some (.slice c3 ((rd_T44 l0 a0).f1.f3).length c4) ∧ w'.cell? ⟨(a2.add ((a0).toNat * 6)).block, (a2.add ((a0).toNat * 6)).off + 5, none⟩ = some (.slice d5 ((rd_T44 l0 a0).f2).length d6) ∧ w'.cell? (a2.add ((a0).toNat * 6)) = some (.string ((rd_T44 l0 a0).f0)) ∧ w'.cell? ⟨(a2.add ((a0).toNat * 6)).block, (a2.add ((a0).toNat * 6)).off + 1, none⟩ = some (.int .i64 ((rd_T44 l0 a0).f1.f0)) ∧ w'.cell? ⟨(a2.add ((a0).toNat * 6)).block, (a2.add ((a0).toNat * 6)).off + 2, none⟩ = some (.int .i64 ((rd_T44 l0 a0).f1.f1)) ∧ w'.cell? ⟨(a2.add ((a0).toNat * 6)).block, (a2.add ((a0).toNat * 6)).off + 3, none⟩ = some (.int .i64 ((rd_T44 l0 a0).f1.f2)) ∧ w'.cell? ⟨(a2.add ((a0).toNat * 6)).block, (a2.add ((a0).toNat * 6)).off + 4, none⟩ = some (.slice c3 ((rd_T44 l0 a0).f1.f3).length c4) ∧ w'.cell? ⟨(a2.add ((a0).toNat * 6)).block, (a2.add ((a0).toNat * 6)).off + 5, none⟩ = some (.slice d5 ((rd_T44 l0 a0).f2).length d6)) (ds := []) (Array.replicate 16 false) (by kernel_rfl) rfl rfl zO fun hHeld => ?_; refine with_tabW spec_EntryOf.tab4 spec_EntryOf.bits4 (fun HT_ HW_ => ?_)
       generalize wc.drew = r9 at a4 a3 HB f4 f5 g0 h0 a8 a9 b0 b1 a5 a6 d0 d1 d2 d3 b5 b6 hHeld ⊢; refine zp 0 15 ?_; refine zp 1 16 ?_; refine zp 2 17 ?_; refine zp 3 18 ?_; refine zp 5 20 ?_; refine zt 4 19 ?_; refine zp 6 21 ?_; refine zp 7 22 ?_; refine zp 8 23 ?_; refine zp 9 24 ?_; refine zp 10 25 ?_; refine zp 11 26 ?_; refine zt 12 27 ?_; refine zt 13 28 ?_
       refine zo 14 (some 29) fun K hK => ?_
       refine goes_ Try.func51 (by kernel_rfl) rfl #[.agg #[.int .i64 ((rd_T44 l0 a0).f1.f0), .int .i64 ((rd_T44 l0 a0).f1.f1), .int .i64 ((rd_T44 l0 a0).f1.f2), .slice c3 ((rd_T44 l0 a0).f1.f3).length c4], .agg #[.int .i64 b2, .int .i64 b3, .int .i64 b4, .slice c5 a7.length c6]] (by rfl) rfl rfl zM ?_
       with_reducible refine (spec_SameVer.calls g3 ((rd_T44 l0 a0).f1.f0) ((rd_T44 l0 a0).f1.f1) ((rd_T44 l0 a0).f1.f2) _ _ ((rd_T44 l0 a0).f1.f3) b2 b3 b4 _ _ a7 true _ ?s1 ?s2 ?s3 ?s4 i6.out).mono ?_
       (case s1 => exact zC (Kd.C_below g0.out HB.out))
       (case s2 => exact g9.out)
       (case s3 => exact zC (Kd.C_below i1.out HB.out))
       (case s4 => exact i2.out)
       rintro e t0 ⟨rfl, hb⟩
       refine ⟨_, rfl, ?_⟩
       replace a4 := zb a4 hb; replace a3 := zb a3 hb; replace HB := zh HB hb
       (try clear hb)
       refine hK.out _ _ zO fun hHeld => ?_
       clear hK K; refine zn ?_; refine zp 15 30 ?_
       refine done_ (done_of HT_.out (by kernel_rfl)) ?_
       have h1 : 0 ≤ (a0 : Int) := zD; have h2 : a0 < (l0.length : Int) := zD; obtain ⟨o5, t1, t2, t3, t4, o6, k4, k5, k6, k7, h3, h4, k8, k9, l1, l2⟩ := at_T44 e4.out a0 h1 h2; have o7 := zA h3; have o8 := zA h4; obtain rfl : a2 = o5 := (by injection o6); replace k4 := zx HB k4; replace k5 := zx HB k5; replace k6 := zx HB k6; replace k7 := zx HB k7; replace h3 := zx HB h3; replace h4 := zx HB h4; have o9 := zA k9; have p0 := zA k8; clear k9 k8; have ea_ := Option.some.inj (g5.out.symm.trans o7.out); injection ea_ with ea_ en_ ec_; subst ea_; subst ec_; clear en_; have ea_ := Option.some.inj (g6.out.symm.trans o8.out); injection ea_ with ea_ en_ ec_; subst ea_; subst ec_; clear en_; have p1 := zA l2; have p3 := zA l1; clear l2 l1; replace h1 := eq_true h1; replace h2 := eq_true h2
       try go_wp2_with (first | ((with_reducible refine zq 52 ?_); refine zg (some 35) Try.func52 #[.agg #[.string ((rd_T44 l0 a0).f0), .int .i64 ((rd_T44 l0 a0).f1.f0), .int .i64 ((rd_T44 l0 a0).f1.f1), .int .i64 ((rd_T44 l0 a0).f1.f2), .slice c3 ((rd_T44 l0 a0).f1.f3).length c4, .slice d5 ((rd_T44 l0 a0).f2).length d6]] ?_; (with_reducible refine (spec_l8Copy.calls ((rd_T44 l0 a0).f0) ((rd_T44 l0 a0).f1.f0) ((rd_T44 l0 a0).f1.f1) ((rd_T44 l0 a0).f1.f2) _ _ ((rd_T44 l0 a0).f1.f3) _ _ ((rd_T44 l0 a0).f2) i7 i8 i9 j0 j2 j3 _ ?s1 ?s2 ?s3 ?s4 n1.out).mono ?_); (case s1 => exact zC (Kd.C_below o9.out HB.out)); (case s2 => exact p0.out); (case s3 => exact zC (Kd.C_below p1.out HB.out)); (case s4 => exact p3.out); rintro e t5 ⟨t6, t7, rfl, l3, l4, hb⟩; refine ⟨_, rfl, ?_⟩; have l5 := zA (Kd.R_lower l3 (below_size (zW HB.out))); have l6 := zA (Kd.R_lower l4 (below_size (zW HB.out))); replace a4 := zb a4 hb; replace a3 := zb a3 hb; replace HB := zh HB hb; (try clear hb l3 l4); have t8 := i4.out; have t9 := i3.out; obtain ⟨v0, v1, v2, v3, v4, v5, v6, v7, v9, x0, x1, x2⟩ := ze6 a3.out; obtain ⟨p4, p5, p6⟩ := Kd.R_slice l5.out; subst p6; obtain ⟨p7, p8, p9⟩ := Kd.R_slice l6.out; subst p9))
       refine bodyPost_ret (results_ct rfl _ _ g1 44 #[.string i7, .int .i64 i8, .int .i64 i9, .int .i64 j0, .slice p4 j2.length p5, .slice p7 j3.length p8] (0, 0) _ rfl (zk6 a3.out) Try.underlying44 rfl (by kernel_rfl)) rfl ?_
       exact ⟨_, _, zE, zR (Kd.R_mono (zr6 l5.out a3.out) (fun _ hk => trivial)), zR (Kd.R_mono (zr6 l6.out a3.out) (fun _ hk => trivial)), zW HB.out⟩
      have H' := zA H; clear H
      try go_wp2
      replace a4 := zA (blk_drew a4.out); replace a3 := zA (blk_drew a3.out); replace HB := zA (below_drew1 HB.out); have b7 : 0 ≤ (a0 : Int) := zD; have b8 : a0 < (l0.length : Int) := zD; obtain ⟨a2, c3, c4, d5, d6, e9, a8, a9, b0, b1, a5, a6, d7, d8, d9, e0⟩ := at_T44 e4.out a0 b7 b8; have g5 := zA a5; have g6 := zA a6; have j5 := a6; have j6 := a5; have j7 := b1; have j8 := b0; have j9 := a9; have k0 := a8; cases e9; replace a8 := zx HB a8; replace a9 := zx HB a9; replace b0 := zx HB b0; replace b1 := zx HB b1; replace a5 := zx HB a5; replace a6 := zx HB a6; have f4 := zA d8; have k2 := zA d7; clear d8 d7; have f5 := zA e0; have k3 := zA d9; clear e0 d9; replace b7 := eq_true b7; replace b8 := eq_true b8; have e2 : 0 ≤ (a0 : Int) := zD; have e3 : a0 < (l0.length : Int) := zD; obtain ⟨g7, n2, n3, n4, n5, g8, d0, d1, d2, d3, b5, b6, f6, f7, f8, f9⟩ := at_T44 e4.out a0 e2 e3; have n6 := zA b5; have n7 := zA b6; have n8 := b6; have n9 := b5; have o0 := d3; have o1 := d2; have o2 := d1; have o3 := d0; obtain rfl : a2 = g7 := (by injection g8); replace d0 := zx HB d0; replace d1 := zx HB d1; replace d2 := zx HB d2; replace d3 := zx HB d3; replace b5 := zx HB b5; replace b6 := zx HB b6; have g0 := zA f7; have g9 := zA f6; clear f7 f6; have h0 := zA f9; have o4 := zA f8; clear f9 f8; replace e2 := eq_true e2; replace e3 := eq_true e3; have ea_ := Option.some.inj (a5.symm.trans b5); injection ea_ with ea_ en_ ec_; subst ea_; subst ec_; clear en_; have ea_ := Option.some.inj (a6.symm.trans b6); injection ea_ with ea_ en_ ec_; subst ea_; subst ec_; clear en_
      refine start_ (n := 16) (S := fun w' => w'.cell? ⟨b9, 0, none⟩ = some (.int .i64 b2) ∧ w'.cell? ⟨b9, 1, none⟩ = some (.int .i64 b3) ∧ w'.cell? ⟨b9, 2, none⟩ = some (.int .i64 b4) ∧ w'.cell? ⟨b9, 3, none⟩ = some (.slice c5 a7.length c6) ∧ w'.cell? (a2.add ((a0).toNat * 6)) = some (.string ((rd_T44 l0 a0).f0)) ∧ w'.cell? ⟨(a2.add ((a0).toNat * 6)).block, (a2.add ((a0).toNat * 6)).off + 1, none⟩ = some (.int .i64 ((rd_T44 l0 a0).f1.f0)) ∧ w'.cell? ⟨(a2.add ((a0).toNat * 6)).block, (a2.add ((a0).toNat * 6)).off + 2, none⟩ = some (.int .i64 ((rd_T44 l0 a0).f1.f1)) ∧ w'.cell? ⟨(a2.add ((a0).toNat * 6)).block, (a2.add ((a0).toNat * 6)).off + 3, none⟩ = some (.int .i64 ((rd_T44 l0 a0).f1.f2)) ∧ w'.cell? ⟨(a2.add ((a0).toNat * 6)).block, (a2.add ((a0).toNat * 6)).off + 4, none⟩ = some (.slice c3 ((rd_T44 l0 a0).f1.f3).length c4) ∧ w'.cell? ⟨(a2.add ((a0).toNat * 6)).block, (a2.add ((a0).toNat * 6)).off + 5, none⟩ = some (.slice d5 ((rd_T44 l0 a0).f2).length d6) ∧ w'.cell? (a2.add ((a0).toNat * 6)) = some (.string ((rd_T44 l0 a0).f0)) ∧ w'.cell? ⟨(a2.add ((a0).toNat * 6)).block, (a2.add ((a0).toNat * 6)).off + 1, none⟩ = some (.int .i64 ((rd_T44 l0 a0).f1.f0)) ∧ w'.cell? ⟨(a2.add ((a0).toNat * 6)).block, (a2.add ((a0).toNat * 6)).off + 2, none⟩ = some (.int .i64 ((rd_T44 l0 a0).f1.f1)) ∧ w'.cell? ⟨(a2.add ((a0).toNat * 6)).block, (a2.add ((a0).toNat * 6)).off + 3, none⟩ = some (.int .i64 ((rd_T44 l0 a0).f1.f2)) ∧ w'.cell? ⟨(a2.add ((a0).toNat * 6)).block, (a2.add ((a0).toNat * 6)).off + 4, none⟩ = some (.slice c3 ((rd_T44 l0 a0).f1.f3).length c4) ∧ w'.cell? ⟨(a2.add ((a0).toNat * 6)).block, (a2.add ((a0).toNat * 6)).off + 5, none⟩ = some (.slice d5 ((rd_T44 l0 a0).f2).length d6)) (ds := []) (Array.replicate 16 false) (by kernel_rfl) rfl rfl zO fun hHeld => ?_; refine with_tabW spec_EntryOf.tab4 spec_EntryOf.bits4 (fun HT_ HW_ => ?_)
      generalize wc.drew = x3 at a4 a3 HB f4 f5 g0 h0 a8 a9 b0 b1 a5 a6 d0 d1 d2 d3 b5 b6 hHeld ⊢; refine zp 0 15 ?_; refine zp 1 16 ?_; refine zp 2 17 ?_; refine zp 3 18 ?_; refine zp 5 20 ?_; refine zt 4 19 ?_; refine zp 6 21 ?_; refine zp 7 22 ?_; refine zp 8 23 ?_; refine zp 9 24 ?_; refine zp 10 25 ?_; refine zp 11 26 ?_; refine zt 12 27 ?_; refine zt 13 28 ?_
      refine zo 14 (some 29) fun K hK => ?_
      refine goes_ Try.func51 (by kernel_rfl) rfl #[.agg #[.int .i64 ((rd_T44 l0 a0).f1.f0), .int .i64 ((rd_T44 l0 a0).f1.f1), .int .i64 ((rd_T44 l0 a0).f1.f2), .slice c3 ((rd_T44 l0 a0).f1.f3).length c4], .agg #[.int .i64 b2, .int .i64 b3, .int .i64 b4, .slice c5 a7.length c6]] (by rfl) rfl rfl zM ?_
      with_reducible refine (spec_SameVer.calls g3 ((rd_T44 l0 a0).f1.f0) ((rd_T44 l0 a0).f1.f1) ((rd_T44 l0 a0).f1.f2) _ _ ((rd_T44 l0 a0).f1.f3) b2 b3 b4 _ _ a7 false _ ?s1 ?s2 ?s3 ?s4 i6.out).mono ?_
      (case s1 => exact zC (Kd.C_below g0.out HB.out))
      (case s2 => exact g9.out)
      (case s3 => exact zC (Kd.C_below i1.out HB.out))
      (case s4 => exact i2.out)
      rintro e x4 ⟨rfl, hb⟩
      refine ⟨_, rfl, ?_⟩
      replace a4 := zb a4 hb; replace a3 := zb a3 hb; replace HB := zh HB hb
      (try clear hb)
      refine hK.out _ _ zO fun hHeld => ?_
      clear hK K; refine zn ?_; refine zp 15 30 ?_
      refine done_ (done_of HT_.out (by kernel_rfl)) ?_
      try go_wp2
      go_roundg g3
      case measure => have := e8.out; have := g2.out; omega
      case rel => exact ⟨(wrap64 (a0 + 1)), (e5), (e1), (d4), (c9), zS, H', ⟨by have := e8.out; have := g2.out; omega⟩, ⟨zK a4.out⟩, ⟨zK a3.out⟩, ⟨zW HB.out⟩⟩
     have m9 := beq_eq_false_iff_ne.mpr e7; have n0 := bne_iff_ne.mpr e7; have H' := zA H; clear H
     try go_wp2
     replace a4 := zA (blk_drew a4.out); replace a3 := zA (blk_drew a3.out); replace HB := zA (below_drew1 HB.out); have b7 : 0 ≤ (a0 : Int) := zD; have b8 : a0 < (l0.length : Int) := zD; obtain ⟨a2, c3, c4, d5, d6, e9, a8, a9, b0, b1, a5, a6, d7, d8, d9, e0⟩ := at_T44 e4.out a0 b7 b8; have g5 := zA a5; have g6 := zA a6; have j5 := a6; have j6 := a5; have j7 := b1; have j8 := b0; have j9 := a9; have k0 := a8; cases e9; replace a8 := zx HB a8; replace a9 := zx HB a9; replace b0 := zx HB b0; replace b1 := zx HB b1; replace a5 := zx HB a5; replace a6 := zx HB a6; have f4 := zA d8; have k2 := zA d7; clear d8 d7; have f5 := zA e0; have k3 := zA d9; clear e0 d9; replace b7 := eq_true b7; replace b8 := eq_true b8
     refine start_ (n := 16) (S := fun w' => w'.cell? (a2.add ((a0).toNat * 6)) = some (.string ((rd_T44 l0 a0).f0)) ∧ w'.cell? ⟨(a2.add ((a0).toNat * 6)).block, (a2.add ((a0).toNat * 6)).off + 1, none⟩ = some (.int .i64 ((rd_T44 l0 a0).f1.f0)) ∧ w'.cell? ⟨(a2.add ((a0).toNat * 6)).block, (a2.add ((a0).toNat * 6)).off + 2, none⟩ = some (.int .i64 ((rd_T44 l0 a0).f1.f1)) ∧ w'.cell? ⟨(a2.add ((a0).toNat * 6)).block, (a2.add ((a0).toNat * 6)).off + 3, none⟩ = some (.int .i64 ((rd_T44 l0 a0).f1.f2)) ∧ w'.cell? ⟨(a2.add ((a0).toNat * 6)).block, (a2.add ((a0).toNat * 6)).off + 4, none⟩ = some (.slice c3 ((rd_T44 l0 a0).f1.f3).length c4) ∧ w'.cell? ⟨(a2.add ((a0).toNat * 6)).block, (a2.add ((a0).toNat * 6)).off + 5, none⟩ = some (.slice d5 ((rd_T44 l0 a0).f2).length d6)) (ds := []) (Array.replicate 16 false) (by kernel_rfl) rfl rfl zO fun hHeld => ?_; refine with_tabW spec_EntryOf.tab4 spec_EntryOf.bits4 (fun HT_ HW_ => ?_)
     generalize wc.drew = x5 at a4 a3 HB f4 f5 a8 a9 b0 b1 a5 a6 hHeld ⊢; refine zp 0 15 ?_; refine zp 1 16 ?_; refine zp 2 17 ?_; refine zp 3 18 ?_; refine zp 5 20 ?_; refine zt 4 19 ?_; refine zp 6 21 ?_; refine zp 7 22 ?_; refine zu 8 23 ?_; refine zu 9 24 ?_; refine zu 10 25 ?_; refine zu 11 26 ?_; refine zu 12 27 ?_; refine zu 13 28 ?_; refine zu 14 29 ?_; refine zp 15 30 ?_
     refine done_ (done_of HT_.out (by kernel_rfl)) ?_
     try go_wp2
     go_roundg g3
     case measure => have := e8.out; have := g2.out; omega
     case rel => exact ⟨(wrap64 (a0 + 1)), (e5), (e1), (d4), (c9), zS, H', ⟨by have := e8.out; have := g2.out; omega⟩, ⟨zK a4.out⟩, ⟨zK a3.out⟩, ⟨zW HB.out⟩⟩
end Go.Proofs.Ytbaeljcnbkeipaa.PGC
