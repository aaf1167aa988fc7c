/- The walks of the functions that these laws reach, and what each comes to: printed by this session's program. -/
import Derived.Test.YtpcdhoeoefoeoaaGreatDoorZGCPGCx0
import Derived.Test.YtpcdhoeoefoeoaaGreatDoorZGCPGCx14
import Derived.Test.YtpcdhoeoefoeoaaGreatDoorZGCSays
namespace Go.Proofs.YtpcdhoeoefoeoaaGreatDoor.PGC
open Go.RowKit YtpcdhoeoefoeoaaGreatDoorW.PrintWords YtpcdhoeoefoeoaaGreatDoorW.PrintLast YtpcdhoeoefoeoaaGreatDoorW.PrintMore
attribute [local go_sem high] Mine.str_gtr Mine.str_leq Mine.str_geq
attribute [local go_sem] max2_int min2_int max_two min_two max_three min_three max_four min_four   -- for this text's walks alone
set_option linter.unusedVariables false
set_option maxHeartbeats 8000000
set_option maxRecDepth 100000
set_option linter.unusedSimpArgs false
/-! ### impl_PlainOk: function 112 -/
def impl_PlainOk.l0 : Nat → ByteArray → Int → Int → Option (Bool)
 | 0, _, _, _ => none
 | k + 1, x0, x1, x5 => if x5 < (x0.size : Int) then (if 0 ≤ x5 then ((impl_isPlain.f (bt x0 x5)).bind fun a0 => (if a0 = true then (impl_PlainOk.l0 k x0 x1 (wrap64 (x5 + 1))) else (some false))) else (none)) else (some (decide ((x0.size : Int) ≤ x1)))
def impl_PlainOk.f (k : Nat) (a0 : ByteArray) (a1 : Int) : Option (Bool) := impl_PlainOk.l0 k a0 a1 0
theorem impl_PlainOk.calls (k : Nat) (a0 : ByteArray) (a1 : Int) (r : Bool) (w : World) (h : impl_PlainOk.f k a0 a1 = some r) :
  Calls Tryz.prog 112 #[.string a0, .int .i64 a1] w fun e w' => e = .returned (.bool r) ∧ Drawn0 w w' := by
 unfold impl_PlainOk.f at h
 have H := h
 clear h
 have H' := Aside0.mk H
 clear H
 go_enter Tryz.func112, Tryz.ntmps112
 go_wp2
 go_loopg [5] k (fun kq v5 w' => ∃ (a2 : Int), v5 = .int .i64 a2 ∧ Aside0 (impl_PlainOk.l0 kq a0 a1 a2 = some r) ∧ Aside0 (kq ≤ k) ∧ Drawn0 w w')
 case atStart => exact ⟨(0), zS, H', ⟨Nat.le_refl _⟩, by repeat (first | exact Drawn0.refl _ | apply Drawn0.step)⟩
 case round =>
  clear H'
  try clear c1
  try clear p2
  obtain ⟨a2, rfl, HA, a3, ⟨m1, rfl⟩⟩ := hrel
  cases gk with
  | zero => exact absurd HA.out (by simp [impl_PlainOk.l0])
  | succ k1 =>
   have H := HA.out
   clear HA
   simp only [impl_PlainOk.l0] at H
   replace H := zI0 H
   rcases H with ⟨a4, H⟩ | ⟨a4, H⟩
   ·replace H := zD0 H
    obtain ⟨a6, H⟩ := H
    replace H := zj H
    obtain ⟨a7, A6, H⟩ := H
    try dsimp only at H
    replace H := zB0 H
    rcases H with ⟨rfl, H⟩ | ⟨rfl, H⟩
    ·have H' := Aside0.mk H
     clear H
     have p5 : 0 ≤ (a2 : Int) := zD
     have q5 : a2 < (a0.size : Int) := zD
     have a5 := bt_at a0 a2
     replace p5 := eq_true p5
     replace q5 := eq_true q5
     go_wp2_with (first | ((with_reducible refine zq 149 ?_); refine zg (some 15) Tryz.func149 #[.int .u8 (bt a0 a2)] ?_; (with_reducible refine (impl_isPlain.calls (bt a0 a2) true _ A6.out).mono ?_); rintro e w' ⟨rfl, ⟨nd, rfl⟩⟩; refine ⟨_, rfl, ?_⟩))
     go_roundg k1
     case measure => have := a3.out; omega
     case rel => exact ⟨(wrap64 (a2 + 1)), zS, H', ⟨by have := a3.out; omega⟩, by repeat (first | exact Drawn0.refl _ | apply Drawn0.step)⟩
    ·obtain rfl := Option.some.inj H
     have p5 : 0 ≤ (a2 : Int) := zD
     have q5 : a2 < (a0.size : Int) := zD
     have a5 := bt_at a0 a2
     replace p5 := eq_true p5
     replace q5 := eq_true q5
     go_wp2_with (first | ((with_reducible refine zq 149 ?_); refine zg (some 15) Tryz.func149 #[.int .u8 (bt a0 a2)] ?_; (with_reducible refine (impl_isPlain.calls (bt a0 a2) false _ A6.out).mono ?_); rintro e w' ⟨rfl, ⟨nd, rfl⟩⟩; refine ⟨_, rfl, ?_⟩))
     go_ret
     exact ⟨by first | rfl | (simp; done) | (simp [*]; done) | (simp; rw [Bool.eq_iff_iff]; simp; done), by repeat (first | exact Drawn0.refl _ | apply Drawn0.step)⟩
   ·obtain rfl := Option.some.inj H
    go_wp2
    go_ret
    exact ⟨by first | rfl | (simp; done) | (simp [*]; done) | (simp; rw [Bool.eq_iff_iff]; simp; done), by repeat (first | exact Drawn0.refl _ | apply Drawn0.step)⟩
/-! ### impl_cmdOk: function 60 -/
def impl_cmdOk.l0 : Nat → List ByteArray → Int → Int → ByteArray → List ByteArray → Option (Bool)
 | 0, _, _, _, _, _ => none
 | k + 1, x6, x7, x8, a0, a1 => if x8 < x7 then (if 0 ≤ x8 then (if x8 < (x6.length : Int) then ((impl_PlainOk.f k (rdOf ByteArray.empty x6 x8) 40).bind fun a2 => (if a2 = true then (impl_cmdOk.l0 k x6 x7 (wrap64 (x8 + 1)) a0 a1) else (some false))) else (none)) else (none)) else ((impl_NameOk.f k a0).bind fun a3 => (if a3 = true then ((impl_inRange.f (a1.length : Int) 1 5).bind fun a4 => (some a4)) else (some false)))
def impl_cmdOk.f (k : Nat) (a1 : ByteArray) (a0 : List ByteArray) : Option (Bool) := impl_cmdOk.l0 k a0 (a0.length : Int) 0 a1 a0
theorem impl_cmdOk.calls (k : Nat) (a2 : ByteArray) (a7 : Option Addr) (a8 : Nat) (a0 : List ByteArray) (r : Bool) (w : World) (b0 : Kd.C Kd.string w a7 a0.length a0) (b1 : a0.length ≤ a8) (h : impl_cmdOk.f k a2 a0 = some r) :
  Calls Tryz.prog 60 #[.agg #[.string a2, .slice a7 a0.length a8]] w fun e w' => e = .returned (.bool r) ∧ Below w.heap.size w w' := by
 have c3 := Tryz.underlying93
 have b2 := Aside0.mk b0
 have c4 := Aside0.mk b1
 clear b0 b1
 have HB := zA (Below.refl w.heap.size w)
 unfold impl_cmdOk.f at h
 have H := h
 clear h
 have H' := Aside0.mk H
 clear H
 go_enter Tryz.func60, Tryz.ntmps60
 go_wp2_with (first | ((with_reducible refine gate_dst (N := 1) rfl ?_); (try (refine gate_guard (by rfl) ?_; dsimp only)); refine box_event ?hg (N := 1) ?hd (cs := #[.string a2, .slice a7 a0.length a8]) (t := 93) ?hr ?_; (case hd => rfl); (case hg => rfl); (case hr => first | (go_simp; done) | (go_simp; rfl)); intro b4 hg w2 hbox hb; have a5 := zA (hbox); have c5 := zi HB hg; have c6 := zi HB hg; replace HB := zA (below_step (zB) hb); clear hb hbox hg; obtain ⟨b5, b6, b7, b8⟩ := ze2 a5.out))
 go_loopg [8] k (fun kq v8 w' => ∃ (a1 : Int), v8 = .int .i64 a1 ∧ Aside0 (impl_cmdOk.l0 kq a0 (a0.length : Int) a1 a2 a0 = some r) ∧ Aside0 (kq ≤ k) ∧ Aside0 (w'.heap[b4]? = some (.cells #[.string a2, (.slice a7 a0.length a8)] 93 (0, 0))) ∧ Aside0 (Below w.heap.size w w'))
 case atStart => exact ⟨(0), zS, H', ⟨Nat.le_refl _⟩, ⟨zK a5.out⟩, ⟨zW HB.out⟩⟩
 case round =>
  clear H'
  try clear p2
  try clear b5 b6 b7 b8
  obtain ⟨a1, rfl, HA, b3, a5, HB⟩ := hrel
  cases gk with
  | zero => exact absurd HA.out (by simp [impl_cmdOk.l0])
  | succ k1 =>
   have H := HA.out
   clear HA
   simp only [impl_cmdOk.l0] at H
   replace H := zI0 H
   rcases H with ⟨b9, H⟩ | ⟨b9, H⟩
   ·replace H := zD0 H
    obtain ⟨c7, H⟩ := H
    replace H := zD0 H
    obtain ⟨c8, H⟩ := H
    replace H := zj H
    obtain ⟨c9, A7, H⟩ := H
    try dsimp only at H
    replace H := zB0 H
    rcases H with ⟨rfl, H⟩ | ⟨rfl, H⟩
    ·have H' := Aside0.mk H
     clear H
     have a3 : 0 ≤ (a1 : Int) := zD
     have a4 : a1 < (a0.length : Int) := zD
     obtain ⟨c0, a9, a6⟩ := Kd.at_string b2.out a1 a3 a4
     cases a9
     replace a6 := zx HB a6
     replace a3 := eq_true a3
     replace a4 := eq_true a4
     go_wp2_with (first | ((with_reducible refine zq 112 ?_); refine zg (some 13) Tryz.func112 #[.string (rdOf ByteArray.empty a0 a1), .int .i64 40] ?_; (with_reducible refine (impl_PlainOk.calls k1 (rdOf ByteArray.empty a0 a1) 40 true _ A7.out).mono ?_); rintro e w' ⟨rfl, ⟨nd, rfl⟩⟩; refine ⟨_, rfl, ?_⟩))
     go_roundg k1
     case measure => have := b3.out; omega
     case rel => exact ⟨(wrap64 (a1 + 1)), zS, H', ⟨by have := b3.out; omega⟩, ⟨zK a5.out⟩, ⟨zW HB.out⟩⟩
    ·obtain rfl := Option.some.inj H
     have a3 : 0 ≤ (a1 : Int) := zD
     have a4 : a1 < (a0.length : Int) := zD
     obtain ⟨c0, a9, a6⟩ := Kd.at_string b2.out a1 a3 a4
     cases a9
     replace a6 := zx HB a6
     replace a3 := eq_true a3
     replace a4 := eq_true a4
     go_wp2_with (first | ((with_reducible refine zq 112 ?_); refine zg (some 13) Tryz.func112 #[.string (rdOf ByteArray.empty a0 a1), .int .i64 40] ?_; (with_reducible refine (impl_PlainOk.calls k1 (rdOf ByteArray.empty a0 a1) 40 false _ A7.out).mono ?_); rintro e w' ⟨rfl, ⟨nd, rfl⟩⟩; refine ⟨_, rfl, ?_⟩))
     go_ret
     exact ⟨zE, zW HB.out⟩
   ·replace H := zj H
    obtain ⟨d0, A9, H⟩ := H
    try dsimp only at H
    replace H := zB0 H
    rcases H with ⟨rfl, H⟩ | ⟨rfl, H⟩
    ·replace H := zj H
     obtain ⟨c1, c2, H⟩ := H
     try dsimp only at H
     obtain rfl := Option.some.inj H
     obtain ⟨d1, d2, d3, d4⟩ := ze2 a5.out
     go_wp2_with (first | ((with_reducible refine zq 61 ?_); refine zg (some 18) Tryz.func61 #[.string a2] ?_; (with_reducible refine (impl_NameOk.calls k1 a2 true _ A9.out).mono ?_); rintro e w' ⟨rfl, ⟨nd, rfl⟩⟩; refine ⟨_, rfl, ?_⟩) | (go_at_call 113; (with_reducible refine (impl_inRange.calls (a0.length : Int) 1 5 c1 _ c2.out).mono ?_); rintro e w' ⟨rfl, ⟨nd, rfl⟩⟩))
     go_ret
     exact ⟨zE, zW HB.out⟩
    ·obtain rfl := Option.some.inj H
     obtain ⟨d5, d6, d7, d8⟩ := ze2 a5.out
     go_wp2_with (first | ((with_reducible refine zq 61 ?_); refine zg (some 18) Tryz.func61 #[.string a2] ?_; (with_reducible refine (impl_NameOk.calls k1 a2 false _ A9.out).mono ?_); rintro e w' ⟨rfl, ⟨nd, rfl⟩⟩; refine ⟨_, rfl, ?_⟩))
     go_ret
     exact ⟨zE, zW HB.out⟩
/-! ### impl_namesOk: function 62 -/
def impl_namesOk.l0 : Nat → List ByteArray → Int → List ByteArray → Int → Int → Option (Bool)
 | 0, _, _, _, _, _ => none
 | k + 1, x0, x1, x7, x8, x9 => if x9 < x8 then (if 0 ≤ x9 then (if x9 < (x7.length : Int) then ((impl_NameOk.f k (rdOf ByteArray.empty x7 x9)).bind fun a0 => (if a0 = true then (impl_namesOk.l0 k x0 x1 x7 x8 (wrap64 (x9 + 1))) else (some false))) else (none)) else (none)) else (some (decide ((x0.length : Int) ≤ x1)))
def impl_namesOk.f (k : Nat) (l0 : List ByteArray) (a1 : Int) : Option (Bool) := impl_namesOk.l0 k l0 a1 l0 (l0.length : Int) 0
theorem impl_namesOk.calls (k : Nat) (A0 : Option Addr) (c0 : Nat) (l0 : List ByteArray) (a1 : Int) (r : Bool) (w : World) (a5 : Kd.C Kd.string w A0 l0.length l0) (a6 : l0.length ≤ c0) (h : impl_namesOk.f k l0 a1 = some r) :
  Calls Tryz.prog 62 #[.slice A0 l0.length c0, .int .i64 a1] w fun e w' => e = .returned (.bool r) ∧ Drawn0 w w' := by
 have a7 := Aside0.mk a5
 have b2 := Aside0.mk a6
 clear a5 a6
 unfold impl_namesOk.f at h
 have H := h
 clear h
 have H' := Aside0.mk H
 clear H
 go_enter Tryz.func62, Tryz.ntmps62
 go_wp2
 go_loopg [9] k (fun kq v9 w' => ∃ (a0 : Int), v9 = .int .i64 a0 ∧ Aside0 (impl_namesOk.l0 kq l0 a1 l0 (l0.length : Int) a0 = some r) ∧ Aside0 (kq ≤ k) ∧ Drawn0 w w')
 case atStart => exact ⟨(0), zS, H', ⟨Nat.le_refl _⟩, by repeat (first | exact Drawn0.refl _ | apply Drawn0.step)⟩
 case round =>
  clear H'
  try clear p2
  obtain ⟨a0, rfl, HA, a8, ⟨m1, rfl⟩⟩ := hrel
  cases gk with
  | zero => exact absurd HA.out (by simp [impl_namesOk.l0])
  | succ k1 =>
   have H := HA.out
   clear HA
   simp only [impl_namesOk.l0] at H
   replace H := zI0 H
   rcases H with ⟨a9, H⟩ | ⟨a9, H⟩
   ·replace H := zD0 H
    obtain ⟨b3, H⟩ := H
    replace H := zD0 H
    obtain ⟨b4, H⟩ := H
    replace H := zj H
    obtain ⟨b5, A6, H⟩ := H
    try dsimp only at H
    replace H := zB0 H
    rcases H with ⟨rfl, H⟩ | ⟨rfl, H⟩
    ·have H' := Aside0.mk H
     clear H
     have a2 : 0 ≤ (a0 : Int) := zD
     have a3 : a0 < (l0.length : Int) := zD
     obtain ⟨b0, a4, b1⟩ := Kd.at_string a7.out a0 a2 a3
     cases a4
     replace a2 := eq_true a2
     replace a3 := eq_true a3
     go_wp2_with (first | ((with_reducible refine zq 61 ?_); refine zg (some 14) Tryz.func61 #[.string (rdOf ByteArray.empty l0 a0)] ?_; (with_reducible refine (impl_NameOk.calls k1 (rdOf ByteArray.empty l0 a0) true _ A6.out).mono ?_); rintro e w' ⟨rfl, ⟨nd, rfl⟩⟩; refine ⟨_, rfl, ?_⟩))
     go_roundg k1
     case measure => have := a8.out; omega
     case rel => exact ⟨(wrap64 (a0 + 1)), zS, H', ⟨by have := a8.out; omega⟩, by repeat (first | exact Drawn0.refl _ | apply Drawn0.step)⟩
    ·obtain rfl := Option.some.inj H
     have a2 : 0 ≤ (a0 : Int) := zD
     have a3 : a0 < (l0.length : Int) := zD
     obtain ⟨b0, a4, b1⟩ := Kd.at_string a7.out a0 a2 a3
     cases a4
     replace a2 := eq_true a2
     replace a3 := eq_true a3
     go_wp2_with (first | ((with_reducible refine zq 61 ?_); refine zg (some 14) Tryz.func61 #[.string (rdOf ByteArray.empty l0 a0)] ?_; (with_reducible refine (impl_NameOk.calls k1 (rdOf ByteArray.empty l0 a0) false _ A6.out).mono ?_); rintro e w' ⟨rfl, ⟨nd, rfl⟩⟩; refine ⟨_, rfl, ?_⟩))
     go_ret
     exact ⟨by first | rfl | (simp; done) | (simp [*]; done) | (simp; rw [Bool.eq_iff_iff]; simp; done), by repeat (first | exact Drawn0.refl _ | apply Drawn0.step)⟩
   ·obtain rfl := Option.some.inj H
    go_wp2
    go_ret
    exact ⟨by first | rfl | (simp; done) | (simp [*]; done) | (simp; rw [Bool.eq_iff_iff]; simp; done), by repeat (first | exact Drawn0.refl _ | apply Drawn0.step)⟩
/-! ### impl_isAscending: function 63 -/
def impl_isAscending.l0 : Nat → List ByteArray → Int → Option (Bool)
 | 0, _, _ => none
 | k + 1, x0, x3 => if x3 < (x0.length : Int) then (if 0 ≤ x3 then (if 0 ≤ (wrap64 (x3 - 1)) then (if (wrap64 (x3 - 1)) < (x0.length : Int) then (if ((Op.bytesLess ((rdOf ByteArray.empty x0 (wrap64 (x3 - 1))).toList) ((rdOf ByteArray.empty x0 x3).toList)) = true) then (impl_isAscending.l0 k x0 (wrap64 (x3 + 1))) else (some false)) else (none)) else (none)) else (none)) else (some true)
def impl_isAscending.f (k : Nat) (l0 : List ByteArray) : Option (Bool) := impl_isAscending.l0 k l0 1
theorem impl_isAscending.calls (k : Nat) (A0 : Option Addr) (c0 : Nat) (l0 : List ByteArray) (r : Bool) (w : World) (b2 : Kd.C Kd.string w A0 l0.length l0) (b3 : l0.length ≤ c0) (h : impl_isAscending.f k l0 = some r) :
  Calls Tryz.prog 63 #[.slice A0 l0.length c0] w fun e w' => e = .returned (.bool r) ∧ Drawn0 w w' := by
 have a6 := Aside0.mk b2
 have b9 := Aside0.mk b3
 clear b2 b3
 unfold impl_isAscending.f at h
 have H := h
 clear h
 have H' := Aside0.mk H
 clear H
 go_enter Tryz.func63, Tryz.ntmps63
 go_wp2
 repeat (go_quiet (fail); try go_wp2)
 go_loopg [3] k (fun kq v3 w' => ∃ (a0 : Int), v3 = .int .i64 a0 ∧ Aside0 (impl_isAscending.l0 kq l0 a0 = some r) ∧ Aside0 (kq ≤ k) ∧ Drawn0 w w')
 case atStart => exact ⟨(1), zS, H', ⟨Nat.le_refl _⟩, by repeat (first | exact Drawn0.refl _ | apply Drawn0.step)⟩
 case round =>
  clear H'
  obtain ⟨a0, rfl, HA, b4, ⟨m1, rfl⟩⟩ := hrel
  cases gk with
  | zero => exact absurd HA.out (by simp [impl_isAscending.l0])
  | succ k1 =>
   have H := HA.out
   clear HA
   simp only [impl_isAscending.l0] at H
   replace H := zI0 H
   rcases H with ⟨b5, H⟩ | ⟨b5, H⟩
   ·replace H := zD0 H
    obtain ⟨c1, H⟩ := H
    obtain ⟨a1, a7⟩ : ∃ j_ : Int, (wrap64 (a0 - 1)) = j_ := ⟨_, rfl⟩
    replace H : (if 0 ≤ (a1) then (if (a1) < (l0.length : Int) then (if ((Op.bytesLess ((rdOf ByteArray.empty l0 (a1)).toList) ((rdOf ByteArray.empty l0 a0).toList)) = true) then (impl_isAscending.l0 k1 l0 (wrap64 (a0 + 1))) else (some false)) else (none)) else (none)) = some r := by first | (rw [a7] at H; exact H) | (simp only [a7] at H ⊢; exact H)
    have hji4w : (IntKind.i64.wrap (a0 - 1)) = a1 := (i64_w _).trans a7
    replace H := zD0 H
    obtain ⟨c2, H⟩ := H
    replace H := zD0 H
    obtain ⟨c3, H⟩ := H
    replace H := zI1 H
    rcases H with ⟨c7, H⟩ | ⟨c7, H⟩
    ·have b6 : (Op.bytesLess ((rdOf ByteArray.empty l0 (a1)).toList) ((rdOf ByteArray.empty l0 a0).toList)) = true := c7
     clear c7
     have H' := Aside0.mk H
     clear H
     have a2 : 0 ≤ (a0 : Int) := zD
     have a3 : a0 < (l0.length : Int) := zD
     obtain ⟨a8, a9, b7⟩ := Kd.at_string a6.out a0 a2 a3
     cases a9
     replace a2 := eq_true a2
     replace a3 := eq_true a3
     have a4 : 0 ≤ ((a1) : Int) := zD
     have a5 : (a1) < (l0.length : Int) := zD
     obtain ⟨b0, b1, b8⟩ := Kd.at_string a6.out (a1) a4 a5
     obtain rfl : a8 = b0 := (by injection b1)
     replace a4 := eq_true a4
     replace a5 := eq_true a5
     go_wp2
     repeat (go_quiet (fail); try go_wp2)
     go_roundg k1
     case measure => have := b4.out; omega
     case rel => exact ⟨(wrap64 (a0 + 1)), zS, H', ⟨by have := b4.out; omega⟩, by repeat (first | exact Drawn0.refl _ | apply Drawn0.step)⟩
    ·have b6 : (Op.bytesLess ((rdOf ByteArray.empty l0 (a1)).toList) ((rdOf ByteArray.empty l0 a0).toList)) = false := by simpa using c7
     clear c7
     obtain rfl := Option.some.inj H
     have a2 : 0 ≤ (a0 : Int) := zD
     have a3 : a0 < (l0.length : Int) := zD
     obtain ⟨a8, a9, b7⟩ := Kd.at_string a6.out a0 a2 a3
     cases a9
     replace a2 := eq_true a2
     replace a3 := eq_true a3
     have a4 : 0 ≤ ((a1) : Int) := zD
     have a5 : (a1) < (l0.length : Int) := zD
     obtain ⟨b0, b1, b8⟩ := Kd.at_string a6.out (a1) a4 a5
     obtain rfl : a8 = b0 := (by injection b1)
     replace a4 := eq_true a4
     replace a5 := eq_true a5
     go_wp2
     repeat (go_quiet (fail); try go_wp2)
     go_ret
     exact ⟨by first | rfl | (simp; done) | (simp only [← a7] <;> (first | rfl | simp)) | (simp [*]; done), by repeat (first | exact Drawn0.refl _ | apply Drawn0.step)⟩
   ·obtain rfl := Option.some.inj H
    go_wp2
    repeat (go_quiet (fail); try go_wp2)
    go_ret
    exact ⟨by first | rfl | (simp; done) | (simp [*]; done) | (simp; rw [Bool.eq_iff_iff]; simp; done), by repeat (first | exact Drawn0.refl _ | apply Drawn0.step)⟩
/-! ### strings_Split: function 81 -/
def strings_Split.f (a0 a1 : ByteArray) : Option (List ByteArray) := if a0.size < 4294967281 ∧ 1 ≤ a1.size then some (Lib.splitB a1 0 (Lib.countB a0 a1) a0) else none
theorem strings_Split.calls (a0 a1 : ByteArray) (r : List ByteArray) (w : World) (hG : GW w) (h : strings_Split.f a0 a1 = some r) :
  Calls Tryz.prog 81 #[.string a0, .string a1] w fun e w' => ∃ a2 : Value, e = .returned (a2) ∧ Kd.R Kd.string 9 w' w.heap.size (fun _ => True) a2 r ∧ Below w.heap.size w w' := by
 unfold strings_Split.f at h
 split at h
 ·rename_i hs
  obtain rfl := Option.some.inj h
  obtain ⟨m, hm⟩ := hG.maxLen
  refine (Tryz.strings_Split a0 a1 m w hs.1 hm hs.2).mono ?_
  rintro e w' ⟨rfl, rfl⟩
  have hl := Lib.splitB_all a1 hs.2 0 _ a0 rfl
  have hle := Lib.countB_le a1 hs.2 a0.size a0 (Nat.le_refl _)
  exact ⟨_, rfl, Lb.split_R w 9 _ _ hl (by omega), below_alloc (Below.refl _ _) _⟩
 ·cases h
/-! ### impl_isFigures: function 151 -/
def impl_isFigures.l0 : Nat → ByteArray → Int → Option (Bool)
 | 0, _, _ => none
 | k + 1, x0, x3 => if x3 < (x0.size : Int) then (if 0 ≤ x3 then ((impl_isFigure.f (bt x0 x3)).bind fun a0 => (if a0 = true then (impl_isFigures.l0 k x0 (wrap64 (x3 + 1))) else (some false))) else (none)) else (some (x0.toList != ([] : List UInt8)))
def impl_isFigures.f (k : Nat) (a0 : ByteArray) : Option (Bool) := impl_isFigures.l0 k a0 0
theorem impl_isFigures.calls (k : Nat) (a0 : ByteArray) (r : Bool) (w : World) (h : impl_isFigures.f k a0 = some r) :
  Calls Tryz.prog 151 #[.string a0] w fun e w' => e = .returned (.bool r) ∧ Drawn0 w w' := by
 unfold impl_isFigures.f at h
 have H := h
 clear h
 have H' := Aside0.mk H
 clear H
 go_enter Tryz.func151, Tryz.ntmps151
 go_wp2
 go_loopg [3] k (fun kq v3 w' => ∃ (a1 : Int), v3 = .int .i64 a1 ∧ Aside0 (impl_isFigures.l0 kq a0 a1 = some r) ∧ Aside0 (kq ≤ k) ∧ Drawn0 w w')
 case atStart => exact ⟨(0), zS, H', ⟨Nat.le_refl _⟩, by repeat (first | exact Drawn0.refl _ | apply Drawn0.step)⟩
 case round =>
  clear H'
  try clear c1
  obtain ⟨a1, rfl, HA, a2, ⟨m1, rfl⟩⟩ := hrel
  cases gk with
  | zero => exact absurd HA.out (by simp [impl_isFigures.l0])
  | succ k1 =>
   have H := HA.out
   clear HA
   simp only [impl_isFigures.l0] at H
   replace H := zI0 H
   rcases H with ⟨a3, H⟩ | ⟨a3, H⟩
   ·replace H := zD0 H
    obtain ⟨a5, H⟩ := H
    replace H := zj H
    obtain ⟨a6, A5, H⟩ := H
    try dsimp only at H
    replace H := zB0 H
    rcases H with ⟨rfl, H⟩ | ⟨rfl, H⟩
    ·have H' := Aside0.mk H
     clear H
     have p4 : 0 ≤ (a1 : Int) := zD
     have q4 : a1 < (a0.size : Int) := zD
     have a4 := bt_at a0 a1
     replace p4 := eq_true p4
     replace q4 := eq_true q4
     go_wp2_with (first | ((with_reducible refine zq 115 ?_); refine zg (some 13) Tryz.func115 #[.int .u8 (bt a0 a1)] ?_; (with_reducible refine (impl_isFigure.calls (bt a0 a1) true _ A5.out).mono ?_); rintro e w' ⟨rfl, ⟨nd, rfl⟩⟩; refine ⟨_, rfl, ?_⟩))
     go_roundg k1
     case measure => have := a2.out; omega
     case rel => exact ⟨(wrap64 (a1 + 1)), zS, H', ⟨by have := a2.out; omega⟩, by repeat (first | exact Drawn0.refl _ | apply Drawn0.step)⟩
    ·obtain rfl := Option.some.inj H
     have p4 : 0 ≤ (a1 : Int) := zD
     have q4 : a1 < (a0.size : Int) := zD
     have a4 := bt_at a0 a1
     replace p4 := eq_true p4
     replace q4 := eq_true q4
     go_wp2_with (first | ((with_reducible refine zq 115 ?_); refine zg (some 13) Tryz.func115 #[.int .u8 (bt a0 a1)] ?_; (with_reducible refine (impl_isFigure.calls (bt a0 a1) false _ A5.out).mono ?_); rintro e w' ⟨rfl, ⟨nd, rfl⟩⟩; refine ⟨_, rfl, ?_⟩))
     go_ret
     exact ⟨by first | rfl | (simp; done) | (simp [*]; done) | (simp; rw [Bool.eq_iff_iff]; simp; done), by repeat (first | exact Drawn0.refl _ | apply Drawn0.step)⟩
   ·obtain rfl := Option.some.inj H
    go_wp2
    go_ret
    exact ⟨by first | rfl | (simp; done) | (simp [*]; done) | (simp; rw [Bool.eq_iff_iff]; simp; done), by repeat (first | exact Drawn0.refl _ | apply Drawn0.step)⟩
/-! ### impl_preOk: function 120 -/
mutual
def impl_preOk.l0 : Nat → ByteArray → Int → Option (Bool)
 | 0, _, _ => none
 | k + 1, x0, x3 => if x3 < (x0.size : Int) then (impl_preOk.j1 k x0 x3) else ((impl_inRange.f (x0.size : Int) 1 8).bind fun a0 => (if a0 = true then ((impl_isFigures.f k x0).bind fun a1 => (if a1 = true then (if x0.toList = ([48] : List UInt8) then (some true) else (if 0 < (x0.size : Int) then (some ((bt x0 0) != 48)) else (none))) else (some true))) else (some false)))
def impl_preOk.j1 : Nat → ByteArray → Int → Option (Bool)
 | 0, _, _ => none
 | k + 1, x0, x3 => if 0 ≤ x3 then (if x3 < (x0.size : Int) then ((impl_isSmall.f (bt x0 x3)).bind fun a2 => (if a2 = true then (impl_preOk.l0 k x0 (wrap64 (x3 + 1))) else (if (bt x0 x3) ≥ 65 then (if ((bt x0 x3) ≤ 90) then (impl_preOk.l0 k x0 (wrap64 (x3 + 1))) else ((impl_isFigure.f (bt x0 x3)).bind fun a3 => (if a3 = true then (impl_preOk.l0 k x0 (wrap64 (x3 + 1))) else (if (bt x0 x3) = 45 then (impl_preOk.l0 k x0 (wrap64 (x3 + 1))) else (some false))))) else ((impl_isFigure.f (bt x0 x3)).bind fun a4 => (if a4 = true then (impl_preOk.l0 k x0 (wrap64 (x3 + 1))) else (if (bt x0 x3) = 45 then (impl_preOk.l0 k x0 (wrap64 (x3 + 1))) else (some false))))))) else (none)) else (none)
end
def impl_preOk.f (k : Nat) (a0 : ByteArray) : Option (Bool) := impl_preOk.l0 k a0 0
theorem impl_preOk.calls (k : Nat) (a0 : ByteArray) (r : Bool) (w : World) (h : impl_preOk.f k a0 = some r) :
  Calls Tryz.prog 120 #[.string a0] w fun e w' => e = .returned (.bool r) ∧ Drawn0 w w' := by
 unfold impl_preOk.f at h
 have H := h
 clear h
 have H' := Aside0.mk H
 clear H
 go_enter Tryz.func120, Tryz.ntmps120
 go_wp2
 go_loopg [3] k (fun kq v3 w' => ∃ (a1 : Int), v3 = .int .i64 a1 ∧ Aside0 (impl_preOk.l0 kq a0 a1 = some r) ∧ Aside0 (kq ≤ k) ∧ Drawn0 w w')
 case atStart => exact ⟨(0), zS, H', ⟨Nat.le_refl _⟩, by repeat (first | exact Drawn0.refl _ | apply Drawn0.step)⟩
 case round =>
  clear H'
  try clear c1
  obtain ⟨a1, rfl, HA, a4, ⟨m1, rfl⟩⟩ := hrel
  cases gk with
  | zero => exact absurd HA.out (by simp [impl_preOk.l0])
  | succ k1 =>
   have H := HA.out
   clear HA
   simp only [impl_preOk.l0] at H
   have b5 := Aside0.mk H
   clear H
   go_upto_if 8 with (fail)
   go_cut [] (fun wc => ∃ (kq : Nat), Aside0 (impl_preOk.j1 kq a0 a1 = some r) ∧ Aside0 (kq ≤ k1) ∧ Drawn0 w wc)
   case first =>
    have H := b5.out
    clear b5
    replace H := zI0 H
    rcases H with ⟨a8, H⟩ | ⟨a8, H⟩
    ·(first | rw [a8] | (simp only [i64_w, i32_w]; rw [a8]) | skip)
     have H' := Aside0.mk H
     clear H
     go_wp2
     go_meet
     case rel => exact ⟨_, (by first | exact H' | (subst_vars; exact H')), ⟨by have := a4.out; first | omega | exact Nat.le_refl _⟩, by repeat (first | exact Drawn0.refl _ | apply Drawn0.step)⟩
    ·(first | rw [a8] | (simp only [i64_w, i32_w]; rw [a8]) | skip)
     replace H := zj H
     obtain ⟨d7, A4, H⟩ := H
     try dsimp only at H
     replace H := zB0 H
     rcases H with ⟨rfl, H⟩ | ⟨rfl, H⟩
     ·replace H := zj H
      obtain ⟨d8, A6, H⟩ := H
      try dsimp only at H
      replace H := zB0 H
      rcases H with ⟨rfl, H⟩ | ⟨rfl, H⟩
      ·replace H := zI1 H
       rcases H with ⟨c8, H⟩ | ⟨c8, H⟩
       ·have b9 := beq_iff_eq.mpr c8
        have c0 := bne_eq_false_iff_eq.mpr c8
        clear c8
        obtain rfl := Option.some.inj H
        go_wp2_with (first | ((with_reducible refine zq 113 ?_); refine zg (some 37) Tryz.func113 #[.int .i64 (a0.size : Int), .int .i64 1, .int .i64 8] ?_; (with_reducible refine (impl_inRange.calls (a0.size : Int) 1 8 true _ A4.out).mono ?_); rintro e w' ⟨rfl, ⟨nd, rfl⟩⟩; refine ⟨_, rfl, ?_⟩) | (go_at_call 151; (with_reducible refine (impl_isFigures.calls k1 a0 true _ A6.out).mono ?_); rintro e w' ⟨rfl, ⟨nd, rfl⟩⟩))
        go_ret
        exact ⟨by first | rfl | (simp; done) | (simp [*]; done) | (simp; rw [Bool.eq_iff_iff]; simp; done), by repeat (first | exact Drawn0.refl _ | apply Drawn0.step)⟩
       ·have b9 := beq_eq_false_iff_ne.mpr c8
        have c0 := bne_iff_ne.mpr c8
        replace H := zC0 H
        obtain ⟨c9, H⟩ := H
        have c2 := decide_eq_true c9
        have c4 : decide (0 < a0.size) = true := decide_eq_true (by omega)
        clear c9
        obtain rfl := Option.some.inj H
        go_wp2_with (first | ((with_reducible refine zq 113 ?_); refine zg (some 37) Tryz.func113 #[.int .i64 (a0.size : Int), .int .i64 1, .int .i64 8] ?_; (with_reducible refine (impl_inRange.calls (a0.size : Int) 1 8 true _ A4.out).mono ?_); rintro e w' ⟨rfl, ⟨nd, rfl⟩⟩; refine ⟨_, rfl, ?_⟩) | (go_at_call 151; (with_reducible refine (impl_isFigures.calls k1 a0 true _ A6.out).mono ?_); rintro e w' ⟨rfl, ⟨nd, rfl⟩⟩; have b6 : 0 ≤ (0 : Int) := (by omega); have b4 : 0 < a0.size := (by have : (0 : Int) < (a0.size : Int) := zD; omega); have c6 : ∀ h : 0 < a0.size, ((a0[0]'h).toNat : Int) = bt a0 0 := bt_at a0 0; clear b6; have d0 : (0 < (a0.size : Int)) = True := eq_true (zD); replace b4 := eq_true b4))
        go_ret
        exact ⟨by first | rfl | (simp; done) | (simp [*]; done) | (simp; rw [Bool.eq_iff_iff]; simp; done), by repeat (first | exact Drawn0.refl _ | apply Drawn0.step)⟩
      ·obtain rfl := Option.some.inj H
       go_wp2_with (first | ((with_reducible refine zq 113 ?_); refine zg (some 37) Tryz.func113 #[.int .i64 (a0.size : Int), .int .i64 1, .int .i64 8] ?_; (with_reducible refine (impl_inRange.calls (a0.size : Int) 1 8 true _ A4.out).mono ?_); rintro e w' ⟨rfl, ⟨nd, rfl⟩⟩; refine ⟨_, rfl, ?_⟩) | (go_at_call 151; (with_reducible refine (impl_isFigures.calls k1 a0 false _ A6.out).mono ?_); rintro e w' ⟨rfl, ⟨nd, rfl⟩⟩))
       go_ret
       exact ⟨by first | rfl | (simp; done) | (simp [*]; done) | (simp; rw [Bool.eq_iff_iff]; simp; done), by repeat (first | exact Drawn0.refl _ | apply Drawn0.step)⟩
     ·obtain rfl := Option.some.inj H
      go_wp2_with (first | ((with_reducible refine zq 113 ?_); refine zg (some 37) Tryz.func113 #[.int .i64 (a0.size : Int), .int .i64 1, .int .i64 8] ?_; (with_reducible refine (impl_inRange.calls (a0.size : Int) 1 8 false _ A4.out).mono ?_); rintro e w' ⟨rfl, ⟨nd, rfl⟩⟩; refine ⟨_, rfl, ?_⟩))
      go_ret
      exact ⟨by first | rfl | (simp; done) | (simp [*]; done) | (simp; rw [Bool.eq_iff_iff]; simp; done), by repeat (first | exact Drawn0.refl _ | apply Drawn0.step)⟩
   case rest =>
    clear b5
    try clear c1
    try clear p1
    try clear q1
    try clear hx1
    try clear qi1
    try clear p2
    try clear c3
    try clear a8
    try clear c5
    try clear c7
    try clear c8
    try clear b9
    try clear c0
    try clear c9
    try clear c2
    try clear c4
    try clear b6
    try clear b4
    try clear c6
    try clear d0
    try clear b6
    try clear b4
    obtain ⟨kq, HA, a5, ⟨d9, rfl⟩⟩ := hcut
    cases kq with
    | zero => exact absurd HA.out (by simp [impl_preOk.j1])
    | succ a9 =>
     have H := HA.out
     clear HA
     simp only [impl_preOk.j1] at H
     replace H := zD0 H
     obtain ⟨e0, H⟩ := H
     replace H := zD0 H
     obtain ⟨e1, H⟩ := H
     replace H := zj H
     obtain ⟨e2, a6, H⟩ := H
     try dsimp only at H
     replace H := zB0 H
     rcases H with ⟨rfl, H⟩ | ⟨rfl, H⟩
     ·have H' := Aside0.mk H
      clear H
      have a2 : 0 ≤ (a1 : Int) := zD
      have a3 : a1 < (a0.size : Int) := zD
      have a7 := bt_at a0 a1
      replace a2 := eq_true a2
      replace a3 := eq_true a3
      go_wp2_with (first | ((with_reducible refine zq 114 ?_); refine zg (some 15) Tryz.func114 #[.int .u8 (bt a0 a1)] ?_; (with_reducible refine (impl_isSmall.calls (bt a0 a1) true _ a6.out).mono ?_); rintro e w' ⟨rfl, ⟨nd, rfl⟩⟩; refine ⟨_, rfl, ?_⟩))
      go_roundg a9
      case measure => have := a4.out; have := a5.out; omega
      case rel => exact ⟨(wrap64 (a1 + 1)), zS, H', ⟨by have := a4.out; have := a5.out; omega⟩, by repeat (first | exact Drawn0.refl _ | apply Drawn0.step)⟩
     ·replace H := zI1 H
      rcases H with ⟨b2, H⟩ | ⟨b2, H⟩
      ·have d1 : decide (65 ≤ (bt a0 a1)) = true := decide_eq_true b2
       clear b2
       replace H := zI1 H
       rcases H with ⟨b3, H⟩ | ⟨b3, H⟩
       ·have d2 : decide ((bt a0 a1) ≤ 90) = true := decide_eq_true b3
        clear b3
        have H' := Aside0.mk H
        clear H
        have a2 : 0 ≤ (a1 : Int) := zD
        have a3 : a1 < (a0.size : Int) := zD
        have a7 := bt_at a0 a1
        replace a2 := eq_true a2
        replace a3 := eq_true a3
        go_wp2_with (first | ((with_reducible refine zq 114 ?_); refine zg (some 15) Tryz.func114 #[.int .u8 (bt a0 a1)] ?_; (with_reducible refine (impl_isSmall.calls (bt a0 a1) false _ a6.out).mono ?_); rintro e w' ⟨rfl, ⟨nd, rfl⟩⟩; refine ⟨_, rfl, ?_⟩))
        go_roundg a9
        case measure => have := a4.out; have := a5.out; omega
        case rel => exact ⟨(wrap64 (a1 + 1)), zS, H', ⟨by have := a4.out; have := a5.out; omega⟩, by repeat (first | exact Drawn0.refl _ | apply Drawn0.step)⟩
       ·have d2 : decide ((bt a0 a1) ≤ 90) = false := decide_eq_false b3
        clear b3
        replace H := zj H
        obtain ⟨e3, b7, H⟩ := H
        try dsimp only at H
        replace H := zB0 H
        rcases H with ⟨rfl, H⟩ | ⟨rfl, H⟩
        ·have H' := Aside0.mk H
         clear H
         have a2 : 0 ≤ (a1 : Int) := zD
         have a3 : a1 < (a0.size : Int) := zD
         have a7 := bt_at a0 a1
         replace a2 := eq_true a2
         replace a3 := eq_true a3
         go_wp2_with (first | ((with_reducible refine zq 114 ?_); refine zg (some 15) Tryz.func114 #[.int .u8 (bt a0 a1)] ?_; (with_reducible refine (impl_isSmall.calls (bt a0 a1) false _ a6.out).mono ?_); rintro e w' ⟨rfl, ⟨nd, rfl⟩⟩; refine ⟨_, rfl, ?_⟩) | (go_at_call 115; (with_reducible refine (impl_isFigure.calls (bt a0 a1) true _ b7.out).mono ?_); rintro e w' ⟨rfl, ⟨nd, rfl⟩⟩))
         go_roundg a9
         case measure => have := a4.out; have := a5.out; omega
         case rel => exact ⟨(wrap64 (a1 + 1)), zS, H', ⟨by have := a4.out; have := a5.out; omega⟩, by repeat (first | exact Drawn0.refl _ | apply Drawn0.step)⟩
        ·replace H := zI1 H
         rcases H with ⟨b0, H⟩ | ⟨b0, H⟩
         ·have d3 := beq_iff_eq.mpr b0
          have d4 := bne_eq_false_iff_eq.mpr b0
          clear b0
          have H' := Aside0.mk H
          clear H
          have a2 : 0 ≤ (a1 : Int) := zD
          have a3 : a1 < (a0.size : Int) := zD
          have a7 := bt_at a0 a1
          replace a2 := eq_true a2
          replace a3 := eq_true a3
          go_wp2_with (first | ((with_reducible refine zq 114 ?_); refine zg (some 15) Tryz.func114 #[.int .u8 (bt a0 a1)] ?_; (with_reducible refine (impl_isSmall.calls (bt a0 a1) false _ a6.out).mono ?_); rintro e w' ⟨rfl, ⟨nd, rfl⟩⟩; refine ⟨_, rfl, ?_⟩) | (go_at_call 115; (with_reducible refine (impl_isFigure.calls (bt a0 a1) false _ b7.out).mono ?_); rintro e w' ⟨rfl, ⟨nd, rfl⟩⟩))
          go_roundg a9
          case measure => have := a4.out; have := a5.out; omega
          case rel => exact ⟨(wrap64 (a1 + 1)), zS, H', ⟨by have := a4.out; have := a5.out; omega⟩, by repeat (first | exact Drawn0.refl _ | apply Drawn0.step)⟩
         ·have d3 := beq_eq_false_iff_ne.mpr b0
          have d4 := bne_iff_ne.mpr b0
          obtain rfl := Option.some.inj H
          have a2 : 0 ≤ (a1 : Int) := zD
          have a3 : a1 < (a0.size : Int) := zD
          have a7 := bt_at a0 a1
          replace a2 := eq_true a2
          replace a3 := eq_true a3
          go_wp2_with (first | ((with_reducible refine zq 114 ?_); refine zg (some 15) Tryz.func114 #[.int .u8 (bt a0 a1)] ?_; (with_reducible refine (impl_isSmall.calls (bt a0 a1) false _ a6.out).mono ?_); rintro e w' ⟨rfl, ⟨nd, rfl⟩⟩; refine ⟨_, rfl, ?_⟩) | (go_at_call 115; (with_reducible refine (impl_isFigure.calls (bt a0 a1) false _ b7.out).mono ?_); rintro e w' ⟨rfl, ⟨nd, rfl⟩⟩))
          go_ret
          exact ⟨by first | rfl | (simp; done) | (simp [*]; done) | (simp; rw [Bool.eq_iff_iff]; simp; done), by repeat (first | exact Drawn0.refl _ | apply Drawn0.step)⟩
      ·have d1 : decide (65 ≤ (bt a0 a1)) = false := decide_eq_false b2
       clear b2
       replace H := zj H
       obtain ⟨e4, b8, H⟩ := H
       try dsimp only at H
       replace H := zB0 H
       rcases H with ⟨rfl, H⟩ | ⟨rfl, H⟩
       ·have H' := Aside0.mk H
        clear H
        have a2 : 0 ≤ (a1 : Int) := zD
        have a3 : a1 < (a0.size : Int) := zD
        have a7 := bt_at a0 a1
        replace a2 := eq_true a2
        replace a3 := eq_true a3
        go_wp2_with (first | ((with_reducible refine zq 114 ?_); refine zg (some 15) Tryz.func114 #[.int .u8 (bt a0 a1)] ?_; (with_reducible refine (impl_isSmall.calls (bt a0 a1) false _ a6.out).mono ?_); rintro e w' ⟨rfl, ⟨nd, rfl⟩⟩; refine ⟨_, rfl, ?_⟩) | (go_at_call 115; (with_reducible refine (impl_isFigure.calls (bt a0 a1) true _ b8.out).mono ?_); rintro e w' ⟨rfl, ⟨nd, rfl⟩⟩))
        go_roundg a9
        case measure => have := a4.out; have := a5.out; omega
        case rel => exact ⟨(wrap64 (a1 + 1)), zS, H', ⟨by have := a4.out; have := a5.out; omega⟩, by repeat (first | exact Drawn0.refl _ | apply Drawn0.step)⟩
       ·replace H := zI1 H
        rcases H with ⟨b1, H⟩ | ⟨b1, H⟩
        ·have d5 := beq_iff_eq.mpr b1
         have d6 := bne_eq_false_iff_eq.mpr b1
         clear b1
         have H' := Aside0.mk H
         clear H
         have a2 : 0 ≤ (a1 : Int) := zD
         have a3 : a1 < (a0.size : Int) := zD
         have a7 := bt_at a0 a1
         replace a2 := eq_true a2
         replace a3 := eq_true a3
         go_wp2_with (first | ((with_reducible refine zq 114 ?_); refine zg (some 15) Tryz.func114 #[.int .u8 (bt a0 a1)] ?_; (with_reducible refine (impl_isSmall.calls (bt a0 a1) false _ a6.out).mono ?_); rintro e w' ⟨rfl, ⟨nd, rfl⟩⟩; refine ⟨_, rfl, ?_⟩) | (go_at_call 115; (with_reducible refine (impl_isFigure.calls (bt a0 a1) false _ b8.out).mono ?_); rintro e w' ⟨rfl, ⟨nd, rfl⟩⟩))
         go_roundg a9
         case measure => have := a4.out; have := a5.out; omega
         case rel => exact ⟨(wrap64 (a1 + 1)), zS, H', ⟨by have := a4.out; have := a5.out; omega⟩, by repeat (first | exact Drawn0.refl _ | apply Drawn0.step)⟩
        ·have d5 := beq_eq_false_iff_ne.mpr b1
         have d6 := bne_iff_ne.mpr b1
         obtain rfl := Option.some.inj H
         have a2 : 0 ≤ (a1 : Int) := zD
         have a3 : a1 < (a0.size : Int) := zD
         have a7 := bt_at a0 a1
         replace a2 := eq_true a2
         replace a3 := eq_true a3
         go_wp2_with (first | ((with_reducible refine zq 114 ?_); refine zg (some 15) Tryz.func114 #[.int .u8 (bt a0 a1)] ?_; (with_reducible refine (impl_isSmall.calls (bt a0 a1) false _ a6.out).mono ?_); rintro e w' ⟨rfl, ⟨nd, rfl⟩⟩; refine ⟨_, rfl, ?_⟩) | (go_at_call 115; (with_reducible refine (impl_isFigure.calls (bt a0 a1) false _ b8.out).mono ?_); rintro e w' ⟨rfl, ⟨nd, rfl⟩⟩))
         go_ret
         exact ⟨by first | rfl | (simp; done) | (simp [*]; done) | (simp; rw [Bool.eq_iff_iff]; simp; done), by repeat (first | exact Drawn0.refl _ | apply Drawn0.step)⟩
end Go.Proofs.YtpcdhoeoefoeoaaGreatDoor.PGC
