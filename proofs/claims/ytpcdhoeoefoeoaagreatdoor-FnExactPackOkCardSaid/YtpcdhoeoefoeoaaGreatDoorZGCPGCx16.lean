/- The walks of the functions that these laws reach, and what each comes to: printed by this session's program. -/
import Derived.Test.YtpcdhoeoefoeoaaGreatDoorZGCPGCx0
import Derived.Test.YtpcdhoeoefoeoaaGreatDoorZGCPGCx14
import Derived.Test.YtpcdhoeoefoeoaaGreatDoorZGCPGCx15
import Derived.Test.YtpcdhoeoefoeoaaGreatDoorZGCSays
import Derived.Test.YtpcdhoeoefoeoaaGreatDoorZGCRegs
namespace Go.Proofs.YtpcdhoeoefoeoaaGreatDoor.PGC
open Go.RowKit YtpcdhoeoefoeoaaGreatDoorW.PrintWords YtpcdhoeoefoeoaaGreatDoorW.PrintLast YtpcdhoeoefoeoaaGreatDoorW.PrintMore
attribute [local go_sem high] Mine.str_gtr Mine.str_leq Mine.str_geq
attribute [local go_sem] max2_int min2_int max_two min_two max_three min_three max_four min_four   -- for this text's walks alone
set_option linter.unusedVariables false
set_option maxHeartbeats 8000000
set_option maxRecDepth 100000
set_option linter.unusedSimpArgs false
/-! ### impl_VerOk: function 71 -/
def impl_VerOk.l0 : Nat → List ByteArray → Int → Int → Int → Int → Int → List ByteArray → Option (Bool)
 | 0, _, _, _, _, _, _, _ => none
 | k + 1, x6, x7, x8, a0, a1, a2, a3 => if x8 < x7 then (if 0 ≤ x8 then (if x8 < (x6.length : Int) then ((impl_preOk.f k (rdOf ByteArray.empty x6 x8)).bind fun a4 => (if a4 = true then (impl_VerOk.l0 k x6 x7 (wrap64 (x8 + 1)) a0 a1 a2 a3) else (some false))) else (none)) else (none)) else ((impl_inRange.f a0 0 9999).bind fun a5 => (if a5 = true then ((impl_inRange.f a1 0 9999).bind fun a6 => (if a6 = true then ((impl_inRange.f a2 0 9999).bind fun a7 => (if a7 = true then (some (decide ((a3.length : Int) ≤ 3))) else (some false))) else (some false))) else (some false)))
def impl_VerOk.f (k : Nat) (a1 a2 a3 : Int) (a0 : List ByteArray) : Option (Bool) := impl_VerOk.l0 k a0 (a0.length : Int) 0 a1 a2 a3 a0
theorem impl_VerOk.calls (k : Nat) (a2 a3 a5 : Int) (a9 : Option Addr) (b0 : Nat) (a0 : List ByteArray) (r : Bool) (w : World) (b3 : Kd.C Kd.string w a9 a0.length a0) (b4 : a0.length ≤ b0) (h : impl_VerOk.f k a2 a3 a5 a0 = some r) :
  Calls Tryz.prog 71 #[.agg #[.int .i64 a2, .int .i64 a3, .int .i64 a5, .slice a9 a0.length b0]] w fun e w' => e = .returned (.bool r) ∧ Below w.heap.size w w' := by
 have c9 := Tryz.underlying32
 have b5 := Aside0.mk b3
 have d0 := Aside0.mk b4
 clear b3 b4
 have HB := zA (Below.refl w.heap.size w)
 unfold impl_VerOk.f at h
 have H := h
 clear h
 have H' := Aside0.mk H
 clear H
 go_enter Tryz.func71, Tryz.ntmps71
 go_wp2_with (first | ((with_reducible refine gate_dst (N := 1) rfl ?_); (try (refine gate_guard (by rfl) ?_; dsimp only)); refine box_event ?hg (N := 1) ?hd (cs := #[.int .i64 a2, .int .i64 a3, .int .i64 a5, .slice a9 a0.length b0]) (t := 32) ?hr ?_; (case hd => rfl); (case hg => rfl); (case hr => first | (go_simp; done) | (go_simp; rfl)); intro b8 hg w2 hbox hb; have a4 := zA (hbox); have d1 := zi HB hg; have d2 := zi HB hg; replace HB := zA (below_step (zB) hb); clear hb hbox hg; obtain ⟨b9, c0, c1, c2, c3, c4, c5, c6⟩ := ze4 a4.out))
 go_loopg [8] k (fun kq v8 w' => ∃ (a1 : Int), v8 = .int .i64 a1 ∧ Aside0 (impl_VerOk.l0 kq a0 (a0.length : Int) a1 a2 a3 a5 a0 = some r) ∧ Aside0 (kq ≤ k) ∧ Aside0 (w'.heap[b8]? = some (.cells #[.int .i64 a2, .int .i64 a3, .int .i64 a5, (.slice a9 a0.length b0)] 32 (0, 0))) ∧ Aside0 (Below w.heap.size w w'))
 case atStart => exact ⟨(0), zS, H', ⟨Nat.le_refl _⟩, ⟨zK a4.out⟩, ⟨zW HB.out⟩⟩
 case round =>
  clear H'
  try clear p2
  try clear b9 c0 c1 c2 c3 c4 c5 c6
  obtain ⟨a1, rfl, HA, b6, a4, HB⟩ := hrel
  cases gk with
  | zero => exact absurd HA.out (by simp [impl_VerOk.l0])
  | succ k1 =>
   have H := HA.out
   clear HA
   simp only [impl_VerOk.l0] at H
   replace H := zI0 H
   rcases H with ⟨c7, H⟩ | ⟨c7, H⟩
   ·replace H := zD0 H
    obtain ⟨d3, H⟩ := H
    replace H := zD0 H
    obtain ⟨d4, H⟩ := H
    replace H := zj H
    obtain ⟨d5, A7, H⟩ := H
    try dsimp only at H
    replace H := zB0 H
    rcases H with ⟨rfl, H⟩ | ⟨rfl, H⟩
    ·have H' := Aside0.mk H
     clear H
     have a6 : 0 ≤ (a1 : Int) := zD
     have a7 : a1 < (a0.length : Int) := zD
     obtain ⟨c8, b1, a8⟩ := Kd.at_string b5.out a1 a6 a7
     cases b1
     replace a8 := zx HB a8
     replace a6 := eq_true a6
     replace a7 := eq_true a7
     go_wp2_with (first | ((with_reducible refine zq 120 ?_); refine zg (some 13) Tryz.func120 #[.string (rdOf ByteArray.empty a0 a1)] ?_; (with_reducible refine (impl_preOk.calls k1 (rdOf ByteArray.empty a0 a1) true _ A7.out).mono ?_); rintro e w' ⟨rfl, ⟨nd, rfl⟩⟩; refine ⟨_, rfl, ?_⟩))
     go_roundg k1
     case measure => have := b6.out; omega
     case rel => exact ⟨(wrap64 (a1 + 1)), zS, H', ⟨by have := b6.out; omega⟩, ⟨zK a4.out⟩, ⟨zW HB.out⟩⟩
    ·obtain rfl := Option.some.inj H
     have a6 : 0 ≤ (a1 : Int) := zD
     have a7 : a1 < (a0.length : Int) := zD
     obtain ⟨c8, b1, a8⟩ := Kd.at_string b5.out a1 a6 a7
     cases b1
     replace a8 := zx HB a8
     replace a6 := eq_true a6
     replace a7 := eq_true a7
     go_wp2_with (first | ((with_reducible refine zq 120 ?_); refine zg (some 13) Tryz.func120 #[.string (rdOf ByteArray.empty a0 a1)] ?_; (with_reducible refine (impl_preOk.calls k1 (rdOf ByteArray.empty a0 a1) false _ A7.out).mono ?_); rintro e w' ⟨rfl, ⟨nd, rfl⟩⟩; refine ⟨_, rfl, ?_⟩))
     go_ret
     exact ⟨zE, zW HB.out⟩
   ·replace H := zj H
    obtain ⟨d6, A9, H⟩ := H
    try dsimp only at H
    replace H := zB0 H
    rcases H with ⟨rfl, H⟩ | ⟨rfl, H⟩
    ·replace H := zj H
     obtain ⟨d7, b2, H⟩ := H
     try dsimp only at H
     replace H := zB0 H
     rcases H with ⟨rfl, H⟩ | ⟨rfl, H⟩
     ·replace H := zj H
      obtain ⟨d8, b7, H⟩ := H
      try dsimp only at H
      replace H := zB0 H
      rcases H with ⟨rfl, H⟩ | ⟨rfl, H⟩
      ·obtain rfl := Option.some.inj H
       obtain ⟨d9, e0, e1, e2, e3, e4, e5, e6⟩ := ze4 a4.out
       go_wp2_with (first | ((with_reducible refine zq 113 ?_); refine zg (some 18) Tryz.func113 #[.int .i64 a2, .int .i64 0, .int .i64 9999] ?_; (with_reducible refine (impl_inRange.calls a2 0 9999 true _ A9.out).mono ?_); rintro e w' ⟨rfl, ⟨nd, rfl⟩⟩; refine ⟨_, rfl, ?_⟩) | (go_at_call 113; (with_reducible refine (impl_inRange.calls a3 0 9999 true _ b2.out).mono ?_); rintro e w' ⟨rfl, ⟨nd, rfl⟩⟩) | (go_at_call 113; (with_reducible refine (impl_inRange.calls a5 0 9999 true _ b7.out).mono ?_); rintro e w' ⟨rfl, ⟨nd, rfl⟩⟩))
       go_ret
       exact ⟨zE, zW HB.out⟩
      ·obtain rfl := Option.some.inj H
       obtain ⟨e7, e8, e9, f0, f1, f2, f3, f4⟩ := ze4 a4.out
       go_wp2_with (first | ((with_reducible refine zq 113 ?_); refine zg (some 18) Tryz.func113 #[.int .i64 a2, .int .i64 0, .int .i64 9999] ?_; (with_reducible refine (impl_inRange.calls a2 0 9999 true _ A9.out).mono ?_); rintro e w' ⟨rfl, ⟨nd, rfl⟩⟩; refine ⟨_, rfl, ?_⟩) | (go_at_call 113; (with_reducible refine (impl_inRange.calls a3 0 9999 true _ b2.out).mono ?_); rintro e w' ⟨rfl, ⟨nd, rfl⟩⟩) | (go_at_call 113; (with_reducible refine (impl_inRange.calls a5 0 9999 false _ b7.out).mono ?_); rintro e w' ⟨rfl, ⟨nd, rfl⟩⟩))
       go_ret
       exact ⟨zE, zW HB.out⟩
     ·obtain rfl := Option.some.inj H
      obtain ⟨f5, f6, f7, f8, f9, g0, g1, g2⟩ := ze4 a4.out
      go_wp2_with (first | ((with_reducible refine zq 113 ?_); refine zg (some 18) Tryz.func113 #[.int .i64 a2, .int .i64 0, .int .i64 9999] ?_; (with_reducible refine (impl_inRange.calls a2 0 9999 true _ A9.out).mono ?_); rintro e w' ⟨rfl, ⟨nd, rfl⟩⟩; refine ⟨_, rfl, ?_⟩) | (go_at_call 113; (with_reducible refine (impl_inRange.calls a3 0 9999 false _ b2.out).mono ?_); rintro e w' ⟨rfl, ⟨nd, rfl⟩⟩))
      go_ret
      exact ⟨zE, zW HB.out⟩
    ·obtain rfl := Option.some.inj H
     obtain ⟨g3, g4, g5, g6, g7, g8, g9, h0⟩ := ze4 a4.out
     go_wp2_with (first | ((with_reducible refine zq 113 ?_); refine zg (some 18) Tryz.func113 #[.int .i64 a2, .int .i64 0, .int .i64 9999] ?_; (with_reducible refine (impl_inRange.calls a2 0 9999 false _ A9.out).mono ?_); rintro e w' ⟨rfl, ⟨nd, rfl⟩⟩; refine ⟨_, rfl, ?_⟩))
     go_ret
     exact ⟨zE, zW HB.out⟩
/-! ### strings_Trim: function 127 -/
def strings_Trim.f (a0 a1 : ByteArray) : Option ByteArray := if a1.size = 1 ∧ bt a1 0 < 128 ∧ a0.size ≤ 9223372036854775807 then some ⟨(Lib.trimB a0.data.toList (bt a1 0).toNat.toUInt8).toArray⟩ else none
theorem strings_Trim.calls (a0 a1 r : ByteArray) (w : World) (h : strings_Trim.f a0 a1 = some r) :
  Calls Tryz.prog 127 #[.string a0, .string a1] w fun e w' => e = .returned (.string r) ∧ Drawn0 w w' := by
 unfold strings_Trim.f at h
 split at h
 ·rename_i hs
  obtain rfl := Option.some.inj h
  obtain ⟨c, rfl⟩ := Lb.one_byte hs.1
  rw [Lb.bt_one] at hs ⊢
  refine (Tryz.strings_Trim_one a0 c (by omega) w hs.2.2).mono ?_
  rintro e w' ⟨rfl, hw⟩
  refine ⟨by simp, ?_⟩
  rcases hw with rfl | rfl
  ·exact Drawn0.refl _
  ·exact ⟨⟨1, rfl⟩⟩
 ·cases h
/-! ### strings_Join: function 103 -/
def strings_Join.f (l0 : List ByteArray) (a1 : ByteArray) : Option ByteArray := if (Lib.join (l0.map (·.data.toList)) a1.data.toList).length ≤ 140737488355328 ∧ l0.length ≤ 140737488355328 then some ⟨(Lib.join (l0.map (·.data.toList)) a1.data.toList).toArray⟩ else none
theorem strings_Join.calls (A0 : Option Addr) (c0 : Nat) (l0 : List ByteArray) (a1 r : ByteArray) (w : World) (a0 : Kd.C Kd.string w A0 l0.length l0) (a2 : l0.length ≤ c0) (h : strings_Join.f l0 a1 = some r) :
  Calls Tryz.prog 103 #[.slice A0 l0.length c0, .string a1] w fun e w' => e = .returned (.string r) ∧ Below w.heap.size w w' := by
 unfold strings_Join.f at h
 split at h
 ·rename_i hs
  obtain rfl := Option.some.inj h
  rcases l0 with _ | ⟨x, l⟩
  ·refine (Tryz.strings_Join_none A0 c0 a1 w).mono ?_
   rintro e w' ⟨rfl, rfl⟩
   exact ⟨rfl, Below.refl _ _⟩
  ·obtain ⟨b, o, rfl, hcell⟩ := Lb.C_string_plain a0 (by simp)
   exact Tryz.strings_Join b o c0 (x :: l) a1 w hcell (World.block_lt_of_cell? w _ (hcell 0 x rfl)) hs.2 a2 hs.1
 ·cases h
/-! ### strconv_Itoa: function 174 -/
def strconv_Itoa.f (a0 : Int) : Option ByteArray := if -9223372036854775808 ≤ a0 ∧ a0 ≤ 9223372036854775807 then some ⟨(Lib.itoa a0).toArray⟩ else none
theorem strconv_Itoa.calls (a0 : Int) (r : ByteArray) (w : World) (hG : GW w) (h : strconv_Itoa.f a0 = some r) :
  Calls Tryz.prog 174 #[.int .i64 a0] w fun e w' => e = .returned (.string r) ∧ Below w.heap.size w w' := by
 unfold strconv_Itoa.f at h
 split at h
 ·rename_i hs
  obtain rfl := Option.some.inj h
  refine (Tryz.strconv_Itoa a0 hs.1 hs.2 w hG.pow10).mono ?_
  rintro e w' ⟨rfl, k, os, rfl⟩
  exact ⟨rfl, Lb.below_grow w k os⟩
 ·cases h
/-! ### impl_NumText: function 143 -/
def impl_NumText.f (a0 : Int) : Option (ByteArray) := (strconv_Itoa.f (mx a0 0)).bind fun a1 => (some a1)
theorem impl_NumText.calls (a0 : Int) (r : ByteArray) (w : World) (hG : GW w) (h : impl_NumText.f a0 = some r) :
  Calls Tryz.prog 143 #[.int .i64 a0] w fun e w' => e = .returned (.string r) ∧ Below w.heap.size w w' := by
 have HG := Aside0.mk hG
 clear hG
 have HB := zA (Below.refl w.heap.size w)
 unfold impl_NumText.f at h
 have H := h
 clear h
 obtain ⟨a1, a2⟩ : ∃ j_ : Int, (mx a0 0) = j_ := ⟨_, rfl⟩
 replace H : ((strconv_Itoa.f (a1)).bind fun a3 => (some a3)) = some r := by first | (rw [a2] at H; exact H) | (simp only [a2] at H ⊢; exact H)
 (try (have hji2l : 0 ≤ a1 := by (rw [← a2]; unfold mx; (repeat' split) <;> omega)))
 (try (have hji2m : 0 ≤ a1 := by omega))
 have a4 : (if a0 < 0 then 0 else a0) = a1 := a2
 replace H := zj H
 obtain ⟨a3, A3, H⟩ := H
 try dsimp only at H
 obtain rfl := Option.some.inj H
 go_enter Tryz.func143, Tryz.ntmps143
 go_wp2_with (first | ((with_reducible refine gate_callee (f := 174) rfl ?_); refine goesL_ (some 5) rfl rfl Tryz.func174 (by kernel_rfl) rfl #[.int .i64 a1] rfl (by (try simp only [List.map_toArray, List.map_cons, List.map_nil]); first | done | (simp only [a2]; rfl) | rfl | (simp only [List.length_drop, List.length_take]; rfl)) ?_; (with_reducible refine (strconv_Itoa.calls a1 a3 _ ?side1 A3.out).mono ?_); (case side1 => exact GW.below HG.out (zB)); rintro e w4 ⟨rfl, hb⟩; refine ⟨_, rfl, ?_⟩; replace HB := zA (below_step (zB) hb); (try clear hb)))
 go_ret
 exact ⟨by first | rfl | (simp [errW_none, errW_some] <;> rfl) | (simp only [← a2]; first | rfl | (simp [errW_none, errW_some] <;> rfl)) | (simp [*, errW_none, errW_some] <;> rfl), zB⟩
/-! ### impl_VerText: function 102 -/
def impl_VerText.j0 : Nat → Int → Int → Int → List ByteArray → Option (ByteArray)
 | 0, _, _, _, _ => none
 | k + 1, a5, a6, a7, a4 => (impl_NumText.f a5).bind fun a0 => (if a0.size + 1 ≤ 9223372036854775807 then ((impl_NumText.f a6).bind fun a1 => (if (a0 ++ (⟨#[46]⟩ : ByteArray)).size + a1.size ≤ 9223372036854775807 then (if ((a0 ++ (⟨#[46]⟩ : ByteArray)) ++ a1).size + 1 ≤ 9223372036854775807 then ((impl_NumText.f a7).bind fun a2 => (if (((a0 ++ (⟨#[46]⟩ : ByteArray)) ++ a1) ++ (⟨#[46]⟩ : ByteArray)).size + a2.size ≤ 9223372036854775807 then (if (a4.length : Int) > 0 then ((strings_Join.f a4 (⟨#[46]⟩ : ByteArray)).bind fun a3 => (if 1 + a3.size ≤ 9223372036854775807 then (if ((((a0 ++ (⟨#[46]⟩ : ByteArray)) ++ a1) ++ (⟨#[46]⟩ : ByteArray)) ++ a2).size + ((⟨#[45]⟩ : ByteArray) ++ a3).size ≤ 9223372036854775807 then (some (((((a0 ++ (⟨#[46]⟩ : ByteArray)) ++ a1) ++ (⟨#[46]⟩ : ByteArray)) ++ a2) ++ ((⟨#[45]⟩ : ByteArray) ++ a3))) else (none)) else (none))) else (some ((((a0 ++ (⟨#[46]⟩ : ByteArray)) ++ a1) ++ (⟨#[46]⟩ : ByteArray)) ++ a2))) else (none))) else (none)) else (none))) else (none))
def impl_VerText.f (k : Nat) (a0 a1 a2 : Int) (a3 : List ByteArray) : Option (ByteArray) := (impl_VerOk.f k a0 a1 a2 a3).bind fun a4 => (if a4 = true then (impl_VerText.j0 k a0 a1 a2 a3) else (some (⟨#[]⟩ : ByteArray)))
def impl_VerText.T3 : Bool × List (List Nat × List Nat) := (true, [([], []), ([0], [0]), ([1], [1]), ([2], [2]), ([], []), ([4], [4]), ([5, 2], [5]), ([3, 6], [3, 6]), ([7], [7]), ([], []), ([9], [9]), ([10, 6], [10]), ([8, 11], [8, 11]), ([12, 11, 0, 1, 2, 3, 4, 5, 6, 7, 8, 9, 10, 11, 12], [12])])
def impl_VerText.B3 : List Nat := [0, 1, 3, 7, 0, 16, 55, 127, 255, 0, 512, 1655, 4095, 8191]
theorem impl_VerText.tab3 : rtab .any (opsOf Tryz.f102 3) = impl_VerText.T3 := by kernel_rfl
theorem impl_VerText.bits3 : waitsOk impl_VerText.T3.2 impl_VerText.B3 = true := by kernel_rfl
theorem impl_VerText.calls (k : Nat) (a2 a3 a4 : Int) (a8 : Option Addr) (a9 : Nat) (a1 : List ByteArray) (r : ByteArray) (w : World) (b9 : Kd.C Kd.string w a8 a1.length a1) (c0 : a1.length ≤ a9) (hG : GW w) (h : impl_VerText.f k a2 a3 a4 a1 = some r) :
  Calls Tryz.prog 102 #[.agg #[.int .i64 a2, .int .i64 a3, .int .i64 a4, .slice a8 a1.length a9]] w fun e w' => e = .returned (.string r) ∧ Below w.heap.size w w' := by
 have e0 := Tryz.underlying32
 have c2 := Aside0.mk b9
 have c3 := Aside0.mk c0
 clear b9 c0
 have HG := Aside0.mk hG
 clear hG
 have HB := zA (Below.refl w.heap.size w)
 unfold impl_VerText.f at h
 have H := h
 clear h
 replace H := zj H
 obtain ⟨c6, A2, H⟩ := H
 try dsimp only at H
 have b7 := Aside0.mk H
 clear H
 go_enter Tryz.func102, Tryz.ntmps102
 go_upto_if 6 with (first | ((with_reducible refine zd 1 ?_); refine ze 1 32 #[.int .i64 a2, .int .i64 a3, .int .i64 a4, .slice a8 a1.length a9] ?_; intro a7 hg w4 hbox hb; have a0 := zA (hbox); have e1 := zi HB hg; have e2 := zi HB hg; replace HB := zA (below_step (zB) hb); clear hb hbox hg; obtain ⟨c8, d0, d1, d2, d3, d4, d5, d6⟩ := ze4 a0.out) | ((with_reducible refine zq 71 ?_); refine zg (some 5) Tryz.func71 #[.agg #[.int .i64 a2, .int .i64 a3, .int .i64 a4, .slice a8 a1.length a9]] ?_; (with_reducible refine (impl_VerOk.calls k a2 a3 a4 _ _ a1 c6 _ ?side1 ?side2 A2.out).mono ?_); (case side1 => exact zC (Kd.C_below c2.out HB.out)); (case side2 => exact c3.out); rintro e w6 ⟨rfl, hb⟩; refine ⟨_, rfl, ?_⟩; replace a0 := zb a0 hb; replace HB := zh HB hb; (try clear hb)))
 (try simp only [Act.put, zT])
 go_cut [] (fun wc => ∃ (kq : Nat), Aside0 (impl_VerText.j0 kq a2 a3 a4 a1 = some r) ∧ Aside0 (kq ≤ k) ∧ Aside0 (wc.heap[a7]? = some (.cells #[.int .i64 a2, .int .i64 a3, .int .i64 a4, (.slice a8 a1.length a9)] 32 (0, 0))) ∧ Aside0 (Below w.heap.size w wc))
 case first =>
  have H := b7.out
  clear b7
  replace H := zB0 H
  rcases H with ⟨rfl, H⟩ | ⟨rfl, H⟩
  ·have H' := Aside0.mk H
   clear H
   go_wp2
   go_meet
   case rel => exact ⟨_, (by first | exact H' | (subst_vars; exact H')), ⟨by first | omega | exact Nat.le_refl _⟩, ⟨zK a0.out⟩, ⟨zW HB.out⟩⟩
  ·obtain rfl := Option.some.inj H
   go_wp2
   go_ret
   exact ⟨zE, zW HB.out⟩
 case rest =>
  clear b7
  try clear c1
  try clear p2
  try clear c7
  try clear c8 d0 d1 d2 d3 d4 d5 d6
  obtain ⟨kq, HA, e3, a0, HB⟩ := hcut
  cases kq with
  | zero => exact absurd HA.out (by simp [impl_VerText.j0])
  | succ e4 =>
   have H := HA.out
   clear HA
   simp only [impl_VerText.j0] at H
   replace H := zj H
   obtain ⟨a5, A8, H⟩ := H
   try dsimp only at H
   replace H := zC0 H
   obtain ⟨c9, H⟩ := H
   have e5 := eq_true c9
   have e6 := decide_eq_true c9
   try have e7 : (9223372036854775807 < a5.size + 1) = False := eq_false (Nat.not_lt.2 c9)
   replace H := zj H
   obtain ⟨a6, c4, H⟩ := H
   try dsimp only at H
   replace H := zC0 H
   obtain ⟨b2, H⟩ := H
   have e8 := eq_true b2
   have e9 := decide_eq_true b2
   try have f0 : (9223372036854775807 < (a5 ++ (⟨#[46]⟩ : ByteArray)).size + a6.size) = False := eq_false (Nat.not_lt.2 b2)
   try have f1 : (9223372036854775807 < a5.size + 1 + a6.size) = False := (by have z_ := b2; (try simp only [ByteArray.size_append] at z_); exact eq_false (Nat.not_lt.2 z_))
   replace H := zC0 H
   obtain ⟨b3, H⟩ := H
   have f2 := eq_true b3
   have f3 := decide_eq_true b3
   try have f4 : (9223372036854775807 < ((a5 ++ (⟨#[46]⟩ : ByteArray)) ++ a6).size + 1) = False := eq_false (Nat.not_lt.2 b3)
   try have f5 : (9223372036854775807 < a5.size + 1 + a6.size + 1) = False := (by have z_ := b3; (try simp only [ByteArray.size_append] at z_); exact eq_false (Nat.not_lt.2 z_))
   replace H := zj H
   obtain ⟨b0, c5, H⟩ := H
   try dsimp only at H
   replace H := zC0 H
   obtain ⟨b4, H⟩ := H
   have f6 := eq_true b4
   have f7 := decide_eq_true b4
   try have f8 : (9223372036854775807 < (((a5 ++ (⟨#[46]⟩ : ByteArray)) ++ a6) ++ (⟨#[46]⟩ : ByteArray)).size + b0.size) = False := eq_false (Nat.not_lt.2 b4)
   try have f9 : (9223372036854775807 < a5.size + 1 + a6.size + 1 + b0.size) = False := (by have z_ := b4; (try simp only [ByteArray.size_append] at z_); exact eq_false (Nat.not_lt.2 z_))
   replace H := zI1 H
   rcases H with ⟨b1, H⟩ | ⟨b1, H⟩
   ·have d7 : decide (0 < (a1.length : Int)) = true := decide_eq_true b1
    have d8 : decide (0 < a1.length) = true := decide_eq_true (by omega)
    clear b1
    replace H := zj H
    obtain ⟨b5, d9, H⟩ := H
    try dsimp only at H
    replace H := zC0 H
    obtain ⟨b8, H⟩ := H
    have g0 := eq_true b8
    have g1 := decide_eq_true b8
    try have g2 : (9223372036854775807 < 1 + b5.size) = False := eq_false (Nat.not_lt.2 b8)
    replace H := zC0 H
    obtain ⟨b6, H⟩ := H
    have g3 := eq_true b6
    have g4 := decide_eq_true b6
    try have g5 : (9223372036854775807 < ((((a5 ++ (⟨#[46]⟩ : ByteArray)) ++ a6) ++ (⟨#[46]⟩ : ByteArray)) ++ b0).size + ((⟨#[45]⟩ : ByteArray) ++ b5).size) = False := eq_false (Nat.not_lt.2 b6)
    try have g6 : (9223372036854775807 < a5.size + 1 + a6.size + 1 + b0.size + (1 + b5.size)) = False := (by have z_ := b6; (try simp only [ByteArray.size_append] at z_); exact eq_false (Nat.not_lt.2 z_))
    obtain rfl := Option.some.inj H
    try go_wp2
    replace a0 := zA (blk_drew a0.out)
    replace HB := zA (below_drew1 HB.out)
    refine start_ (n := 14) (S := fun w' => w'.cell? ⟨a7, 0, none⟩ = some (.int .i64 a2) ∧ w'.cell? ⟨a7, 1, none⟩ = some (.int .i64 a3) ∧ w'.cell? ⟨a7, 2, none⟩ = some (.int .i64 a4) ∧ w'.cell? ⟨a7, 3, none⟩ = some (.slice a8 a1.length a9)) (ds := []) (Array.replicate 14 false) (by kernel_rfl) rfl rfl zO fun hHeld => ?_; refine with_tabW impl_VerText.tab3 impl_VerText.bits3 (fun HT_ HW_ => ?_)
    generalize wc.drew = g7 at a0 HB hHeld ⊢
    refine zp 0 7 ?_
    refine zp 4 11 ?_
    refine zp 9 16 ?_
    refine zt 1 8 ?_
    refine zt 5 12 ?_
    refine zt 10 17 ?_
    refine zo 2 (some 9) fun K hK => ?_
    refine goes_ Tryz.func143 (by kernel_rfl) rfl #[.int .i64 a2] (by rfl) rfl rfl zM ?_
    with_reducible refine (impl_NumText.calls a2 a5 _ ?side1 A8.out).mono ?_
    (case side1 => exact GW.below HG.out (zW HB.out))
    rintro e g8 ⟨rfl, hb⟩
    refine ⟨_, rfl, ?_⟩
    replace a0 := zb a0 hb
    replace HB := zh HB hb
    (try clear hb)
    refine hK.out _ _ zO fun hHeld => ?_
    clear hK K
    refine zn ?_
    refine zp 3 10 ?_
    refine zo 6 (some 13) fun K hK => ?_
    refine goes_ Tryz.func143 (by kernel_rfl) rfl #[.int .i64 a3] (by rfl) rfl rfl zM ?_
    with_reducible refine (impl_NumText.calls a3 a6 _ ?side1 c4.out).mono ?_
    (case side1 => exact GW.below HG.out (zW HB.out))
    rintro e g9 ⟨rfl, hb⟩
    refine ⟨_, rfl, ?_⟩
    replace a0 := zb a0 hb
    replace HB := zh HB hb
    (try clear hb)
    refine hK.out _ _ zO fun hHeld => ?_
    clear hK K
    refine zn ?_
    refine zp 7 14 ?_
    refine zp 8 15 ?_
    refine zo 11 (some 18) fun K hK => ?_
    refine goes_ Tryz.func143 (by kernel_rfl) rfl #[.int .i64 a4] (by rfl) rfl rfl zM ?_
    with_reducible refine (impl_NumText.calls a4 b0 _ ?side1 c5.out).mono ?_
    (case side1 => exact GW.below HG.out (zW HB.out))
    rintro e h0 ⟨rfl, hb⟩
    refine ⟨_, rfl, ?_⟩
    replace a0 := zb a0 hb
    replace HB := zh HB hb
    (try clear hb)
    refine hK.out _ _ zO fun hHeld => ?_
    clear hK K
    refine zn ?_
    refine zp 12 19 ?_
    refine zp 13 3 ?_
    refine done_ (done_of HT_.out (by kernel_rfl)) ?_
    obtain ⟨h1, h2, h3, h4, h5, h6, h7, h8⟩ := ze4 a0.out
    try go_wp2_with (first | ((with_reducible refine zq 103 ?_); refine zg (some 27) Tryz.func103 #[.slice a8 a1.length a9, .string (⟨#[46]⟩ : ByteArray)] ?_; (with_reducible refine (strings_Join.calls _ _ a1 (⟨#[46]⟩ : ByteArray) b5 _ ?side1 ?side2 d9.out).mono ?_); (case side1 => exact zC (Kd.C_below c2.out HB.out)); (case side2 => exact c3.out); rintro e h9 ⟨rfl, hb⟩; refine ⟨_, rfl, ?_⟩; replace a0 := zb a0 hb; replace HB := zh HB hb; (try clear hb)))
    go_ret
    exact ⟨zE, zW HB.out⟩
   ·have d7 : decide (0 < (a1.length : Int)) = false := decide_eq_false b1
    have d8 : decide (0 < a1.length) = false := decide_eq_false (by omega)
    clear b1
    obtain rfl := Option.some.inj H
    try go_wp2
    replace a0 := zA (blk_drew a0.out)
    replace HB := zA (below_drew1 HB.out)
    refine start_ (n := 14) (S := fun w' => w'.cell? ⟨a7, 0, none⟩ = some (.int .i64 a2) ∧ w'.cell? ⟨a7, 1, none⟩ = some (.int .i64 a3) ∧ w'.cell? ⟨a7, 2, none⟩ = some (.int .i64 a4) ∧ w'.cell? ⟨a7, 3, none⟩ = some (.slice a8 a1.length a9)) (ds := []) (Array.replicate 14 false) (by kernel_rfl) rfl rfl zO fun hHeld => ?_; refine with_tabW impl_VerText.tab3 impl_VerText.bits3 (fun HT_ HW_ => ?_)
    generalize wc.drew = i0 at a0 HB hHeld ⊢
    refine zp 0 7 ?_
    refine zp 4 11 ?_
    refine zp 9 16 ?_
    refine zt 1 8 ?_
    refine zt 5 12 ?_
    refine zt 10 17 ?_
    refine zo 2 (some 9) fun K hK => ?_
    refine goes_ Tryz.func143 (by kernel_rfl) rfl #[.int .i64 a2] (by rfl) rfl rfl zM ?_
    with_reducible refine (impl_NumText.calls a2 a5 _ ?side1 A8.out).mono ?_
    (case side1 => exact GW.below HG.out (zW HB.out))
    rintro e i1 ⟨rfl, hb⟩
    refine ⟨_, rfl, ?_⟩
    replace a0 := zb a0 hb
    replace HB := zh HB hb
    (try clear hb)
    refine hK.out _ _ zO fun hHeld => ?_
    clear hK K
    refine zn ?_
    refine zp 3 10 ?_
    refine zo 6 (some 13) fun K hK => ?_
    refine goes_ Tryz.func143 (by kernel_rfl) rfl #[.int .i64 a3] (by rfl) rfl rfl zM ?_
    with_reducible refine (impl_NumText.calls a3 a6 _ ?side1 c4.out).mono ?_
    (case side1 => exact GW.below HG.out (zW HB.out))
    rintro e i2 ⟨rfl, hb⟩
    refine ⟨_, rfl, ?_⟩
    replace a0 := zb a0 hb
    replace HB := zh HB hb
    (try clear hb)
    refine hK.out _ _ zO fun hHeld => ?_
    clear hK K
    refine zn ?_
    refine zp 7 14 ?_
    refine zp 8 15 ?_
    refine zo 11 (some 18) fun K hK => ?_
    refine goes_ Tryz.func143 (by kernel_rfl) rfl #[.int .i64 a4] (by rfl) rfl rfl zM ?_
    with_reducible refine (impl_NumText.calls a4 b0 _ ?side1 c5.out).mono ?_
    (case side1 => exact GW.below HG.out (zW HB.out))
    rintro e i3 ⟨rfl, hb⟩
    refine ⟨_, rfl, ?_⟩
    replace a0 := zb a0 hb
    replace HB := zh HB hb
    (try clear hb)
    refine hK.out _ _ zO fun hHeld => ?_
    clear hK K
    refine zn ?_
    refine zp 12 19 ?_
    refine zp 13 3 ?_
    refine done_ (done_of HT_.out (by kernel_rfl)) ?_
    obtain ⟨i4, i5, i6, i7, i8, i9, j1, j2⟩ := ze4 a0.out
    try go_wp2
    go_ret
    exact ⟨zE, zW HB.out⟩
/-! ### strings_Cut: function 165 -/
def strings_Cut.f (a0 a1 : ByteArray) : Option (ByteArray × ByteArray × Bool) := if a0.size < 4294967281 then some (⟨(Lib.cut a0.data.toList a1.data.toList).1.toArray⟩, ⟨(Lib.cut a0.data.toList a1.data.toList).2.1.toArray⟩, (Lib.cut a0.data.toList a1.data.toList).2.2) else none
theorem strings_Cut.calls (a0 a1 r1 r2 : ByteArray) (r3 : Bool) (w : World) (hG : GW w) (h : strings_Cut.f a0 a1 = some (r1, r2, r3)) :
  Calls Tryz.prog 165 #[.string a0, .string a1] w fun e w' => e = .returned (.tuple #[.string r1, .string r2, .bool r3]) ∧ Below w.heap.size w w' := by
 unfold strings_Cut.f at h
 split at h
 ·rename_i hs
  obtain ⟨rfl, h2⟩ := Prod.mk.inj (Option.some.inj h)
  obtain ⟨rfl, rfl⟩ := Prod.mk.inj h2
  obtain ⟨m, hm⟩ := hG.maxLen
  refine (Tryz.strings_Cut a0 a1 m w hs hm).mono ?_
  rintro e w' ⟨rfl, k, rfl⟩
  exact ⟨rfl, pw_below_drewN (Below.refl _ _) _⟩
 ·cases h
end Go.Proofs.YtpcdhoeoefoeoaaGreatDoor.PGC
