/- The walks of the functions that these laws reach, and what each comes to: printed by this session's program. -/
import Derived.Test.YtpcdhoeoefoeoaaGreatDoorZGCPGCx0
import Derived.Test.YtpcdhoeoefoeoaaGreatDoorZGCPGCx2
import Derived.Test.YtpcdhoeoefoeoaaGreatDoorZGCPGCx11
import Derived.Test.YtpcdhoeoefoeoaaGreatDoorZGCPGCx13
import Derived.Test.YtpcdhoeoefoeoaaGreatDoorZGCSays
namespace Go.Proofs.YtpcdhoeoefoeoaaGreatDoor.PGC
open Go.RowKit YtpcdhoeoefoeoaaGreatDoorW.PrintWords YtpcdhoeoefoeoaaGreatDoorW.PrintLast YtpcdhoeoefoeoaaGreatDoorW.PrintMore
attribute [local go_sem high] Mine.str_gtr Mine.str_leq Mine.str_geq
attribute [local go_sem] max2_int min2_int max_two min_two max_three min_three max_four min_four   -- for this text's walks alone
set_option linter.unusedVariables false
set_option maxHeartbeats 8000000
set_option maxRecDepth 100000
set_option linter.unusedSimpArgs false
/-! ### spec_PackOk: function 17 -/
def spec_PackOk.f (k : Nat) (a1 : ByteArray) (a0 : List ByteArray) (a2 : List (S30)) (a3 : List (S93)) : Option (Bool) := (spec_NameOk.f k a1).bind fun a4 => (if a4 = true then (if (a0.length : Int) ≤ 4 then ((spec_l7Names.f k a0).bind fun a5 => (if a5 = true then ((spec_l7Ascending.f k a0).bind fun a6 => (if a6 = true then ((spec_l7Needs.f k a2).bind fun a7 => (if a7 = true then ((spec_l7Cmds.f k a3).bind fun a8 => (some a8)) else (some false))) else (some false))) else (some false))) else (some false)) else (some false))
theorem spec_PackOk.calls (k : Nat) (a0 : ByteArray) (a5 : Option Addr) (a6 : Nat) (a1 : List ByteArray) (a7 : Option Addr) (a8 : Nat) (a3 : List (S30)) (a9 : Option Addr) (b0 : Nat) (a4 : List (S93)) (r : Bool) (w : World) (b6 : Kd.C Kd.string w a5 a1.length a1) (b7 : a1.length ≤ a6) (b8 : Kd.C k30 w a7 a3.length a3) (b9 : a3.length ≤ a8) (c0 : Kd.C k93 w a9 a4.length a4) (c1 : a4.length ≤ b0) (h : spec_PackOk.f k a0 a1 a3 a4 = some r) :
  Calls Tryz.prog 17 #[.agg #[.string a0, .slice a5 a1.length a6, .slice a7 a3.length a8, .slice a9 a4.length b0]] w fun e w' => e = .returned (.bool r) ∧ Below w.heap.size w w' := by
 have d1 := Tryz.underlying45
 have b1 := Aside0.mk b6
 have b2 := Aside0.mk b7
 clear b6 b7
 have c2 := Aside0.mk b8
 have c3 := Aside0.mk b9
 clear b8 b9
 have c5 := Aside0.mk c0
 have c6 := Aside0.mk c1
 clear c0 c1
 have HB := zA (Below.refl w.heap.size w)
 unfold spec_PackOk.f at h
 have H := h
 clear h
 replace H := zj H
 obtain ⟨d2, A2, H⟩ := H
 try dsimp only at H
 replace H := zB0 H
 rcases H with ⟨rfl, H⟩ | ⟨rfl, H⟩
 ·replace H := zI1 H
  rcases H with ⟨c4, H⟩ | ⟨c4, H⟩
  ·have c7 := decide_eq_true c4
   have c8 : decide (a1.length ≤ 4) = true := decide_eq_true (by omega)
   clear c4
   replace H := zj H
   obtain ⟨d3, A5, H⟩ := H
   try dsimp only at H
   replace H := zB0 H
   rcases H with ⟨rfl, H⟩ | ⟨rfl, H⟩
   ·replace H := zj H
    obtain ⟨d4, A7, H⟩ := H
    try dsimp only at H
    replace H := zB0 H
    rcases H with ⟨rfl, H⟩ | ⟨rfl, H⟩
    ·replace H := zj H
     obtain ⟨d5, A9, H⟩ := H
     try dsimp only at H
     replace H := zB0 H
     rcases H with ⟨rfl, H⟩ | ⟨rfl, H⟩
     ·replace H := zj H
      obtain ⟨c9, d0, H⟩ := H
      try dsimp only at H
      obtain rfl := Option.some.inj H
      go_enter Tryz.func17, Tryz.ntmps17
      go_wp2_with (first | ((with_reducible refine gate_dst (N := 1) rfl ?_); (try (refine gate_guard (by rfl) ?_; dsimp only)); refine box_event ?hg (N := 1) ?hd (cs := #[.string a0, .slice a5 a1.length a6, .slice a7 a3.length a8, .slice a9 a4.length b0]) (t := 45) ?hr ?_; (case hd => rfl); (case hg => rfl); (case hr => first | (go_simp; done) | (go_simp; rfl)); intro b3 hg d6 hbox hb; have a2 := zA (hbox); have b4 := zi HB hg; have b5 := zi HB hg; replace HB := zA (below_step (zB) hb); clear hb hbox hg; obtain ⟨d7, d8, d9, e0, e1, e2, e3, e4⟩ := ze4 a2.out) | ((with_reducible refine zq 53 ?_); refine zg (some 5) Tryz.func53 #[.string a0] ?_; (with_reducible refine (spec_NameOk.calls k a0 true _ A2.out).mono ?_); rintro e w' ⟨rfl, ⟨nd, rfl⟩⟩; refine ⟨_, rfl, ?_⟩) | (go_at_call 54; (with_reducible refine (spec_l7Names.calls k _ _ a1 true _ ?side1 ?side2 A5.out).mono ?_); (case side1 => repeat (first | exact (Kd.C_below b1.out (zW HB.out)) | (with_reducible refine Kd.C_alloc ?_ _) | (with_reducible refine Kd.C_drewN ?_ _) | (with_reducible refine Kd.C_drew ?_))); (case side2 => exact b2.out); rintro e w' ⟨rfl, ⟨nd, rfl⟩⟩) | (go_at_call 55; (with_reducible refine (spec_l7Ascending.calls k _ _ a1 true _ ?side1 ?side2 A7.out).mono ?_); (case side1 => repeat (first | exact (Kd.C_below b1.out (zW HB.out)) | (with_reducible refine Kd.C_alloc ?_ _) | (with_reducible refine Kd.C_drewN ?_ _) | (with_reducible refine Kd.C_drew ?_))); (case side2 => exact b2.out); rintro e w' ⟨rfl, ⟨nd, rfl⟩⟩) | (go_at_call 56; (with_reducible refine (spec_l7Needs.calls k _ _ a3 true _ ?side1 ?side2 A9.out).mono ?_); (case side1 => repeat (first | exact (Kd.C_below c2.out (zW HB.out)) | (with_reducible refine Kd.C_alloc ?_ _) | (with_reducible refine Kd.C_drewN ?_ _) | (with_reducible refine Kd.C_drew ?_))); (case side2 => exact c3.out); rintro e e5 ⟨rfl, hb⟩; replace a2 := zb a2 hb; replace HB := zh HB hb; (try clear hb); obtain ⟨e6, e7, e8, e9, f0, f1, f2, f3⟩ := ze4 a2.out) | (go_at_call 57; (with_reducible refine (spec_l7Cmds.calls k _ _ a4 c9 _ ?side1 ?side2 d0.out).mono ?_); (case side1 => exact zC (Kd.C_below c5.out HB.out)); (case side2 => exact c6.out); rintro e f4 ⟨rfl, hb⟩; replace a2 := zb a2 hb; replace HB := zh HB hb; (try clear hb)))
      go_ret
      exact ⟨zE, zW HB.out⟩
     ·obtain rfl := Option.some.inj H
      go_enter Tryz.func17, Tryz.ntmps17
      go_wp2_with (first | ((with_reducible refine gate_dst (N := 1) rfl ?_); (try (refine gate_guard (by rfl) ?_; dsimp only)); refine box_event ?hg (N := 1) ?hd (cs := #[.string a0, .slice a5 a1.length a6, .slice a7 a3.length a8, .slice a9 a4.length b0]) (t := 45) ?hr ?_; (case hd => rfl); (case hg => rfl); (case hr => first | (go_simp; done) | (go_simp; rfl)); intro b3 hg f5 hbox hb; have a2 := zA (hbox); have b4 := zi HB hg; have b5 := zi HB hg; replace HB := zA (below_step (zB) hb); clear hb hbox hg; obtain ⟨f6, f7, f8, f9, g0, g1, g2, g3⟩ := ze4 a2.out) | ((with_reducible refine zq 53 ?_); refine zg (some 5) Tryz.func53 #[.string a0] ?_; (with_reducible refine (spec_NameOk.calls k a0 true _ A2.out).mono ?_); rintro e w' ⟨rfl, ⟨nd, rfl⟩⟩; refine ⟨_, rfl, ?_⟩) | (go_at_call 54; (with_reducible refine (spec_l7Names.calls k _ _ a1 true _ ?side1 ?side2 A5.out).mono ?_); (case side1 => repeat (first | exact (Kd.C_below b1.out (zW HB.out)) | (with_reducible refine Kd.C_alloc ?_ _) | (with_reducible refine Kd.C_drewN ?_ _) | (with_reducible refine Kd.C_drew ?_))); (case side2 => exact b2.out); rintro e w' ⟨rfl, ⟨nd, rfl⟩⟩) | (go_at_call 55; (with_reducible refine (spec_l7Ascending.calls k _ _ a1 true _ ?side1 ?side2 A7.out).mono ?_); (case side1 => repeat (first | exact (Kd.C_below b1.out (zW HB.out)) | (with_reducible refine Kd.C_alloc ?_ _) | (with_reducible refine Kd.C_drewN ?_ _) | (with_reducible refine Kd.C_drew ?_))); (case side2 => exact b2.out); rintro e w' ⟨rfl, ⟨nd, rfl⟩⟩) | (go_at_call 56; (with_reducible refine (spec_l7Needs.calls k _ _ a3 false _ ?side1 ?side2 A9.out).mono ?_); (case side1 => repeat (first | exact (Kd.C_below c2.out (zW HB.out)) | (with_reducible refine Kd.C_alloc ?_ _) | (with_reducible refine Kd.C_drewN ?_ _) | (with_reducible refine Kd.C_drew ?_))); (case side2 => exact c3.out); rintro e g4 ⟨rfl, hb⟩; replace a2 := zb a2 hb; replace HB := zh HB hb; (try clear hb)))
      go_ret
      exact ⟨zE, zW HB.out⟩
    ·obtain rfl := Option.some.inj H
     go_enter Tryz.func17, Tryz.ntmps17
     go_wp2_with (first | ((with_reducible refine gate_dst (N := 1) rfl ?_); (try (refine gate_guard (by rfl) ?_; dsimp only)); refine box_event ?hg (N := 1) ?hd (cs := #[.string a0, .slice a5 a1.length a6, .slice a7 a3.length a8, .slice a9 a4.length b0]) (t := 45) ?hr ?_; (case hd => rfl); (case hg => rfl); (case hr => first | (go_simp; done) | (go_simp; rfl)); intro b3 hg g5 hbox hb; have a2 := zA (hbox); have b4 := zi HB hg; have b5 := zi HB hg; replace HB := zA (below_step (zB) hb); clear hb hbox hg; obtain ⟨g6, g7, g8, g9, h0, h1, h2, h3⟩ := ze4 a2.out) | ((with_reducible refine zq 53 ?_); refine zg (some 5) Tryz.func53 #[.string a0] ?_; (with_reducible refine (spec_NameOk.calls k a0 true _ A2.out).mono ?_); rintro e w' ⟨rfl, ⟨nd, rfl⟩⟩; refine ⟨_, rfl, ?_⟩) | (go_at_call 54; (with_reducible refine (spec_l7Names.calls k _ _ a1 true _ ?side1 ?side2 A5.out).mono ?_); (case side1 => repeat (first | exact (Kd.C_below b1.out (zW HB.out)) | (with_reducible refine Kd.C_alloc ?_ _) | (with_reducible refine Kd.C_drewN ?_ _) | (with_reducible refine Kd.C_drew ?_))); (case side2 => exact b2.out); rintro e w' ⟨rfl, ⟨nd, rfl⟩⟩) | (go_at_call 55; (with_reducible refine (spec_l7Ascending.calls k _ _ a1 false _ ?side1 ?side2 A7.out).mono ?_); (case side1 => repeat (first | exact (Kd.C_below b1.out (zW HB.out)) | (with_reducible refine Kd.C_alloc ?_ _) | (with_reducible refine Kd.C_drewN ?_ _) | (with_reducible refine Kd.C_drew ?_))); (case side2 => exact b2.out); rintro e w' ⟨rfl, ⟨nd, rfl⟩⟩))
     go_ret
     exact ⟨zE, zW HB.out⟩
   ·obtain rfl := Option.some.inj H
    go_enter Tryz.func17, Tryz.ntmps17
    go_wp2_with (first | ((with_reducible refine gate_dst (N := 1) rfl ?_); (try (refine gate_guard (by rfl) ?_; dsimp only)); refine box_event ?hg (N := 1) ?hd (cs := #[.string a0, .slice a5 a1.length a6, .slice a7 a3.length a8, .slice a9 a4.length b0]) (t := 45) ?hr ?_; (case hd => rfl); (case hg => rfl); (case hr => first | (go_simp; done) | (go_simp; rfl)); intro b3 hg h4 hbox hb; have a2 := zA (hbox); have b4 := zi HB hg; have b5 := zi HB hg; replace HB := zA (below_step (zB) hb); clear hb hbox hg; obtain ⟨h5, h6, h7, h8, h9, i0, i1, i2⟩ := ze4 a2.out) | ((with_reducible refine zq 53 ?_); refine zg (some 5) Tryz.func53 #[.string a0] ?_; (with_reducible refine (spec_NameOk.calls k a0 true _ A2.out).mono ?_); rintro e w' ⟨rfl, ⟨nd, rfl⟩⟩; refine ⟨_, rfl, ?_⟩) | (go_at_call 54; (with_reducible refine (spec_l7Names.calls k _ _ a1 false _ ?side1 ?side2 A5.out).mono ?_); (case side1 => repeat (first | exact (Kd.C_below b1.out (zW HB.out)) | (with_reducible refine Kd.C_alloc ?_ _) | (with_reducible refine Kd.C_drewN ?_ _) | (with_reducible refine Kd.C_drew ?_))); (case side2 => exact b2.out); rintro e w' ⟨rfl, ⟨nd, rfl⟩⟩))
    go_ret
    exact ⟨zE, zW HB.out⟩
  ·have c7 := decide_eq_false c4
   have c8 : decide (a1.length ≤ 4) = false := decide_eq_false (by omega)
   clear c4
   obtain rfl := Option.some.inj H
   go_enter Tryz.func17, Tryz.ntmps17
   go_wp2_with (first | ((with_reducible refine gate_dst (N := 1) rfl ?_); (try (refine gate_guard (by rfl) ?_; dsimp only)); refine box_event ?hg (N := 1) ?hd (cs := #[.string a0, .slice a5 a1.length a6, .slice a7 a3.length a8, .slice a9 a4.length b0]) (t := 45) ?hr ?_; (case hd => rfl); (case hg => rfl); (case hr => first | (go_simp; done) | (go_simp; rfl)); intro b3 hg i3 hbox hb; have a2 := zA (hbox); have b4 := zi HB hg; have b5 := zi HB hg; replace HB := zA (below_step (zB) hb); clear hb hbox hg; obtain ⟨i4, i5, i6, i7, i8, i9, j0, j1⟩ := ze4 a2.out) | ((with_reducible refine zq 53 ?_); refine zg (some 5) Tryz.func53 #[.string a0] ?_; (with_reducible refine (spec_NameOk.calls k a0 true _ A2.out).mono ?_); rintro e w' ⟨rfl, ⟨nd, rfl⟩⟩; refine ⟨_, rfl, ?_⟩))
   go_ret
   exact ⟨zE, zW HB.out⟩
 ·obtain rfl := Option.some.inj H
  go_enter Tryz.func17, Tryz.ntmps17
  go_wp2_with (first | ((with_reducible refine gate_dst (N := 1) rfl ?_); (try (refine gate_guard (by rfl) ?_; dsimp only)); refine box_event ?hg (N := 1) ?hd (cs := #[.string a0, .slice a5 a1.length a6, .slice a7 a3.length a8, .slice a9 a4.length b0]) (t := 45) ?hr ?_; (case hd => rfl); (case hg => rfl); (case hr => first | (go_simp; done) | (go_simp; rfl)); intro b3 hg j2 hbox hb; have a2 := zA (hbox); have b4 := zi HB hg; have b5 := zi HB hg; replace HB := zA (below_step (zB) hb); clear hb hbox hg; obtain ⟨j3, j4, j5, j6, j7, j8, j9, k0⟩ := ze4 a2.out) | ((with_reducible refine zq 53 ?_); refine zg (some 5) Tryz.func53 #[.string a0] ?_; (with_reducible refine (spec_NameOk.calls k a0 false _ A2.out).mono ?_); rintro e w' ⟨rfl, ⟨nd, rfl⟩⟩; refine ⟨_, rfl, ?_⟩))
  go_ret
  exact ⟨zE, zW HB.out⟩
/-! ### laws_toStringS: function 49 -/
def laws_toStringS.l0 : Nat → List ByteArray → List ByteArray → Int → Option (List ByteArray)
 | 0, _, _, _ => none
 | k + 1, x0, x3, x4 => if x4 < (x0.length : Int) then (if 0 ≤ x4 then (if x4 < (x3.length : Int) then (laws_toStringS.l0 k x0 (x3.set (x4 : Int).toNat (rdOf ByteArray.empty x0 x4)) (wrap64 (x4 + 1))) else (none)) else (none)) else (some x3)
def laws_toStringS.f (k : Nat) (l0 : List ByteArray) : Option (List ByteArray) := if 0 ≤ (l0.length : Int) then (if ((l0.length : Int) : Int).toNat ≤ 17592186044416 then (laws_toStringS.l0 k l0 (List.replicate ((l0.length : Int) : Int).toNat (⟨#[]⟩ : ByteArray)) 0) else (none)) else (none)
theorem laws_toStringS.calls (k : Nat) (A0 : Option Addr) (c0 : Nat) (l0 r : List ByteArray) (w : World) (b2 : Kd.C Kd.string w A0 l0.length l0) (b3 : l0.length ≤ c0) (h : laws_toStringS.f k l0 = some r) :
  Calls Tryz.prog 49 #[.slice A0 l0.length c0] w fun e w' => ∃ b4 : Value, e = .returned (b4) ∧ Kd.R Kd.string 9 w' w.heap.size (fun _ => True) b4 r ∧ Below w.heap.size w w' := by
 have c6 := Aside0.mk b2
 have d9 := Aside0.mk b3
 clear b2 b3
 have HB := zA (Below.refl w.heap.size w)
 unfold laws_toStringS.f at h
 have H := h
 clear h
 replace H := zC0 H
 obtain ⟨c2, H⟩ := H
 have c7 := eq_true c2
 have c8 := decide_eq_true c2
 clear c2
 replace H := zC0 H
 obtain ⟨c3, H⟩ := H
 have c9 := eq_true c3
 have d0 := decide_eq_true c3
 clear c3
 obtain ⟨b5, a4⟩ : ∃ y_ : List ByteArray, y_ = (List.replicate ((l0.length : Int) : Int).toNat (⟨#[]⟩ : ByteArray)) := ⟨_, rfl⟩
 replace H : (laws_toStringS.l0 k l0 b5 0) = some r := zY a4 H
 have b6 := Aside0.mk a4
 clear a4
 have H' := Aside0.mk H
 clear H
 go_enter Tryz.func49, Tryz.ntmps49
 go_wp2_with (first | ((with_reducible refine gate_dst (N := 7) rfl ?_); refine Kd.R_make Kd.string _ 9 rfl (N := 7) rfl 24 _ _ rfl (l0.length : Int) rfl rfl Tryz.underlying24 (.string ⟨#[]⟩) 16 info9 rfl (by decide) (by omega) (⟨#[]⟩ : ByteArray) (ok := fun _ => True) (okp := fun _ => True) rfl (fun _ hk => hk) trivial (zD) (Nat.le_trans (Nat.mul_le_mul_right _ (zD : (l0.length : Int).toNat ≤ 17592186044416)) (by omega)) (Below.refl _ _) (Nat.le_refl _) ?_; intro d1 w4 a3 hb hg_ hnew_; clear hg_ hnew_; (first | rw [← b6.out] at a3 | (simp only [Int.reduceToNat] at a3; rw [← b6.out] at a3)); have d2 := zA (Kd.R_lower a3 (below_size (zB))); replace HB := zA (below_step (zB) hb); clear hb a3))
 go_loopg [4] k (fun kq v4 w' => ∃ (a1 : List ByteArray) (a0 : Int), v4 = .int .i64 a0 ∧ Aside0 (laws_toStringS.l0 kq l0 a1 a0 = some r) ∧ Aside0 (kq ≤ k) ∧ Aside0 (Kd.R Kd.string 9 w' w.heap.size (fun _ => True) d1 a1) ∧ Aside0 (Below w.heap.size w w'))
 case atStart => exact ⟨(b5), (0), zS, H', ⟨Nat.le_refl _⟩, ⟨zR d2.out⟩, ⟨zB⟩⟩
 case round =>
  clear H'
  try clear c2
  try clear c7
  try clear c8
  try clear p2
  try clear c3
  try clear c9
  try clear d0
  try clear c4
  obtain ⟨a1, a0, rfl, HA, b7, a2, HB⟩ := hrel
  cases gk with
  | zero => exact absurd HA.out (by simp [laws_toStringS.l0])
  | succ k1 =>
   have H := HA.out
   clear HA
   simp only [laws_toStringS.l0] at H
   replace H := zI0 H
   rcases H with ⟨d3, H⟩ | ⟨d3, H⟩
   ·replace H := zD0 H
    obtain ⟨e0, H⟩ := H
    replace H := zD0 H
    obtain ⟨e1, H⟩ := H
    obtain ⟨a5, a6⟩ : ∃ y_ : List ByteArray, y_ = (a1.set (a0 : Int).toNat (rdOf ByteArray.empty l0 a0)) := ⟨_, rfl⟩
    replace H : (laws_toStringS.l0 k1 l0 a5 (wrap64 (a0 + 1))) = some r := zY a6 H
    have d4 := Aside0.mk a6
    clear a6
    have H' := Aside0.mk H
    clear H
    have a7 : 0 ≤ (a0 : Int) := zD
    have a8 : a0 < (l0.length : Int) := zD
    obtain ⟨e2, d5, b8⟩ := Kd.at_string c6.out a0 a7 a8
    cases d5
    replace b8 := zx HB b8
    replace a7 := eq_true a7
    replace a8 := eq_true a8
    have p9 : 0 ≤ (a0 : Int) := zD
    have q9 : (a0 : Int) < ((a1.length : Int) : Int) := zD
    obtain ⟨a9, d6, b9, c1, d7, e3, c5⟩ := Kd.R_form a2.out (by omega)
    (first | cases b9 | (injection b9 with ea_ en_ ec_; (first | subst ea_ | (injection ea_ with ea_; subst ea_)); subst ec_; clear en_))
    have d8 := Aside0.mk c1
    have e4 := Aside0.mk c5
    clear c1 d7 c5
    obtain ⟨e5, e6⟩ := Kd.R_celln (⟨#[]⟩ : ByteArray) a2.out (a0 : Int) p9 q9
    replace p9 := eq_true p9
    replace q9 := eq_true q9
    have b0 := Kd.R_putg a2.out (a0 : Int) (rdOf ByteArray.empty l0 a0)
    go_wp2_with (first | ((with_reducible refine gate_store (t := 9) (p := 20) rfl ?_); refine store_event (t := 9) (p := 20) (v := ?vo_w11) (w1 := (wr.setCell ⟨a9, (a0 : Int).toNat, none⟩ (.string (rdOf ByteArray.empty l0 a0)))) ?hg ?ho ?hn ?hr ?_; (case ho => rfl); (case hg => rfl); (case hn => rfl); (case hr => first | (go_simp; done) | (go_simp; rfl)); intro b1 hw; have hg : wr.grownBy b1 (some a9) := (by rw [hw]; exact b0.2); have hp_ : Kd.R Kd.string 9 b1 w.heap.size (fun _ => True) (.slice (some ⟨a9, 0, none⟩) a1.length d6) a5 := (by rw [hw, d4.out]; exact b0.1); clear b0; replace a2 := zA (hp_); replace HB := zA ((by rw [hw]; exact below_set (HB.out) d8.out : Below w.heap.size w b1)); clear hg hw hp_))
    go_roundg k1
    case measure => have := b7.out; omega
    case rel => exact ⟨(a5), (wrap64 (a0 + 1)), zS, H', ⟨by have := b7.out; omega⟩, ⟨zR a2.out⟩, ⟨zB⟩⟩
   ·obtain rfl := Option.some.inj H
    go_wp2
    go_ret
    exact ⟨_, zE, zR a2.out, zB⟩
/-! ### laws_toNeed: function 12 -/
def laws_toNeed.f (a0 a1 : ByteArray) : Option (ByteArray × ByteArray) := some (a0, a1)
theorem laws_toNeed.calls (a2 a3 r1 r2 : ByteArray) (w : World) (h : laws_toNeed.f a2 a3 = some (r1, r2)) :
  Calls Tryz.prog 12 #[.agg #[.string a2, .string a3]] w fun e w' => e = .returned (.agg #[.string r1, .string r2]) ∧ Below w.heap.size w w' := by
 have b2 := Tryz.underlying23
 have b3 := Tryz.underlying30
 have HB := zA (Below.refl w.heap.size w)
 unfold laws_toNeed.f at h
 have H := h
 clear h
 simp only [Option.some.injEq, Prod.mk.injEq] at H
 obtain ⟨rfl, rfl⟩ := H
 go_enter Tryz.func12, Tryz.ntmps12
 go_wp2_with (first | ((with_reducible refine zd 1 ?_); refine ze 1 23 #[.string a2, .string a3] ?_; intro b4 hg w2 hbox hb; have a0 := zA (hbox); have b5 := zi HB hg; have b6 := zi HB hg; replace HB := zA (below_step (zB) hb); clear hb hbox hg) | ((with_reducible refine zd 2 ?_); refine ze 2 30 #[.string (⟨#[]⟩ : ByteArray), .string (⟨#[]⟩ : ByteArray)] ?_; intro a5 hg w3 hbox hb; have a1 := zA (hbox); have b7 := zi HB hg; have b8 := zi HB hg; replace HB := zh HB hb; have a6 := zA (zL hg (zK a0.out)); have a7 := zA (zJ hg (zK a0.out)); replace a0 := zb a0 hb; clear hb hbox hg) | ((with_reducible refine zd 3 ?_); refine ze 3 30 #[.string (⟨#[]⟩ : ByteArray), .string (⟨#[]⟩ : ByteArray)] ?_; intro b9 hg w4 hbox hb; have a8 := zA (hbox); have c0 := zi HB hg; have c1 := zi HB hg; replace HB := zh HB hb; have a9 := zA (zL hg (zK a0.out)); have b0 := zA (zJ hg (zK a0.out)); replace a0 := zb a0 hb; have a4 := zA (zL hg (zK a1.out)); have b1 := zA (zJ hg (zK a1.out)); replace a1 := zb a1 hb; clear hb hbox hg; have c2 := a6.out; have c3 := a7.out; have c4 := a9.out; have c5 := b0.out; obtain ⟨c6, c7, c8, c9⟩ := ze2 a0.out; have d0 := b1.out; have d1 := a4.out; obtain ⟨d2, d3, d4, d5⟩ := ze2 a8.out; obtain ⟨d6, d7, d8, d9⟩ := ze2 a1.out))
 refine bodyPost_ret (results_cell_row rfl _ _ a5 30 #[.string a2, .string a3] (0, 0) _ rfl (by (with_reducible repeat (first | refine blk_drewN ?_ _ | refine blk_drew ?_ | refine blk_alloc ?_ _)); refine blk_put (cs := #[.string a2, .string (⟨#[]⟩ : ByteArray)]) ?_ 1 _ rfl; (with_reducible repeat (first | refine blk_drewN ?_ _ | refine blk_drew ?_ | refine blk_alloc ?_ _)); refine blk_put (cs := #[.string (⟨#[]⟩ : ByteArray), .string (⟨#[]⟩ : ByteArray)]) ?_ 0 _ rfl; (with_reducible repeat (first | refine blk_drewN ?_ _ | refine blk_drew ?_ | refine blk_alloc ?_ _)); refine blk_far ?_ a4.out _; (with_reducible repeat (first | refine blk_drewN ?_ _ | refine blk_drew ?_ | refine blk_alloc ?_ _)); refine blk_far ?_ a4.out _; (with_reducible repeat (first | refine blk_drewN ?_ _ | refine blk_drew ?_ | refine blk_alloc ?_ _)); exact a1.out) Tryz.underlying30 rfl (by kernel_rfl)) rfl ?_
 exact ⟨zE, zW HB.out⟩
/-! ### laws_toNeedS: function 58 -/
def laws_toNeedS.l0 : Nat → List (S23) → List (S30) → Int → Option ((List (S30)))
 | 0, _, _, _ => none
 | k + 1, x0, x3, x4 => if x4 < (x0.length : Int) then (if 0 ≤ x4 then ((laws_toNeed.f ((rd_T23 x0 x4).f0) ((rd_T23 x0 x4).f1)).bind fun a0 => (if x4 < (x3.length : Int) then (laws_toNeedS.l0 k x0 (x3.set (x4 : Int).toNat (⟨a0.1, a0.2⟩ : S30)) (wrap64 (x4 + 1))) else (none))) else (none)) else (some x3)
def laws_toNeedS.f (k : Nat) (l0 : List (S23)) : Option ((List (S30))) := if 0 ≤ (l0.length : Int) then (if ((l0.length : Int) : Int).toNat ≤ 8796093022208 then (laws_toNeedS.l0 k l0 (List.replicate ((l0.length : Int) : Int).toNat z30) 0) else (none)) else (none)
theorem laws_toNeedS.calls (k : Nat) (A0 : Option Addr) (c0 : Nat) (l0 : List (S23)) (r : List (S30)) (w : World) (c4 : Kd.C k23 w A0 l0.length l0) (c6 : l0.length ≤ c0) (h : laws_toNeedS.f k l0 = some r) :
  Calls Tryz.prog 58 #[.slice A0 l0.length c0] w fun e w' => ∃ c7 : Value, e = .returned (c7) ∧ Kd.R k30 30 w' w.heap.size (fun _ => True) c7 r ∧ Below w.heap.size w w' := by
 have g0 := Tryz.underlying23
 have g1 := Tryz.underlying30
 have e2 := Aside0.mk c4
 have g2 := Aside0.mk c6
 clear c4 c6
 have HB := zA (Below.refl w.heap.size w)
 unfold laws_toNeedS.f at h
 have H := h
 clear h
 replace H := zC0 H
 obtain ⟨c2, H⟩ := H
 have e3 := eq_true c2
 have e4 := decide_eq_true c2
 clear c2
 replace H := zC0 H
 obtain ⟨c3, H⟩ := H
 have e5 := eq_true c3
 have e6 := decide_eq_true c3
 clear c3
 obtain ⟨c8, a9⟩ : ∃ y_ : List (S30), y_ = (List.replicate ((l0.length : Int) : Int).toNat z30) := ⟨_, rfl⟩
 replace H : (laws_toNeedS.l0 k l0 c8 0) = some r := zY a9 H
 have c9 := Aside0.mk a9
 clear a9
 have H' := Aside0.mk H
 clear H
 go_enter Tryz.func58, Tryz.ntmps58
 go_wp2_with (first | ((with_reducible refine gate_dst (N := 7) rfl ?_); refine Kd.R_make k30 _ 30 rfl (N := 7) rfl 42 _ _ rfl (l0.length : Int) rfl rfl Tryz.underlying42 (.agg #[(.string ⟨#[]⟩), (.string ⟨#[]⟩)]) 32 info30 rfl (by decide) (by omega) z30 (ok := fun _ => True) (okp := fun _ => True) (k30_mkM _ _ _ z30 ) (fun _ hk => hk) trivial (zD) (Nat.le_trans (Nat.mul_le_mul_right _ (zD : (l0.length : Int).toNat ≤ 8796093022208)) (by omega)) (Below.refl _ _) (Nat.le_refl _) ?_; intro e7 w4 a7 hb hg_ hnew_; clear hg_ hnew_; (first | rw [← c9.out] at a7 | (simp only [Int.reduceToNat] at a7; rw [← c9.out] at a7)); have e8 := zA (Kd.R_lower a7 (below_size (zB))); replace HB := zA (below_step (zB) hb); clear hb a7))
 go_loopg [4] k (fun kq v4 w' => ∃ (a1 : List (S30)) (a0 : Int), v4 = .int .i64 a0 ∧ Aside0 (laws_toNeedS.l0 kq l0 a1 a0 = some r) ∧ Aside0 (kq ≤ k) ∧ Aside0 (Kd.R k30 30 w' w.heap.size (fun _ => True) e7 a1) ∧ Aside0 (Below w.heap.size w w'))
 case atStart => exact ⟨(c8), (0), zS, H', ⟨Nat.le_refl _⟩, ⟨zR e8.out⟩, ⟨zB⟩⟩
 case round =>
  clear H'
  try clear c2
  try clear e3
  try clear e4
  try clear p2
  try clear c3
  try clear e5
  try clear e6
  try clear c5
  obtain ⟨a1, a0, rfl, HA, d0, a2, HB⟩ := hrel
  cases gk with
  | zero => exact absurd HA.out (by simp [laws_toNeedS.l0])
  | succ k1 =>
   have H := HA.out
   clear HA
   simp only [laws_toNeedS.l0] at H
   replace H := zI0 H
   rcases H with ⟨e9, H⟩ | ⟨e9, H⟩
   ·replace H := zD0 H
    obtain ⟨g3, H⟩ := H
    replace H := zj H
    obtain ⟨⟨a5, a6⟩, A8, H⟩ := H
    try dsimp only at H
    replace H := zD0 H
    obtain ⟨g4, H⟩ := H
    obtain ⟨b0, b1⟩ : ∃ y_ : List (S30), y_ = (a1.set (a0 : Int).toNat (⟨a5, a6⟩ : S30)) := ⟨_, rfl⟩
    replace H : (laws_toNeedS.l0 k1 l0 b0 (wrap64 (a0 + 1))) = some r := zY b1 H
    have f2 := Aside0.mk b1
    clear b1
    have H' := Aside0.mk H
    clear H
    have b2 : 0 ≤ (a0 : Int) := zD
    have b3 : a0 < (l0.length : Int) := zD
    obtain ⟨g5, f3, d1, d2⟩ := at_T23 e2.out a0 b2 b3
    cases f3
    replace d1 := zx HB d1
    replace d2 := zx HB d2
    replace b2 := eq_true b2
    replace b3 := eq_true b3
    go_wp2_with (first | ((with_reducible refine zq 12 ?_); refine zg (some 20) Tryz.func12 #[.agg #[.string ((rd_T23 l0 a0).f0), .string ((rd_T23 l0 a0).f1)]] ?_; (with_reducible refine (laws_toNeed.calls ((rd_T23 l0 a0).f0) ((rd_T23 l0 a0).f1) a5 a6 _ A8.out).mono ?_); rintro e a4 ⟨rfl, hb⟩; refine ⟨_, rfl, ?_⟩; replace a2 := zr a2 hb; replace HB := zA (below_step (zB) hb); (try clear hb); have b4 : 0 ≤ (a0 : Int) := zD; have b5 : (a0 : Int) < ((a1.length : Int) : Int) := zD; obtain ⟨a3, d3, d4, d5, f4, g6, d6⟩ := Kd.R_form a2.out (by omega); (first | cases d4 | (injection d4 with ea_ en_ ec_; (first | subst ea_ | (injection ea_ with ea_; subst ea_)); subst ec_; clear en_)); have d7 := Aside0.mk d5; have g7 := Aside0.mk d6; clear d5 f4 d6; obtain ⟨g8, f5, d8, b6, b7⟩ := Kd.R_elem a2.out z30 (a0 : Int) b4 b5; obtain rfl := k30_openM d8; have g9 : a4.cell? ⟨a3, (a0 : Int).toNat * 2, none⟩ = some (.string ((rd_T30 a1 a0).f0)) := b6 0 _ rfl; have h0 : a4.cell? ⟨a3, (a0 : Int).toNat * 2 + 1, none⟩ = some (.string ((rd_T30 a1 a0).f1)) := b6 1 _ rfl; have h1 : a4.frozen? ⟨a3, (a0 : Int).toNat * 2, none⟩ = false := b7 0; have h2 : a4.frozen? ⟨a3, (a0 : Int).toNat * 2 + 1, none⟩ = false := b7 1; clear f5 b6 b7; (try clear d8); replace b4 := eq_true b4; replace b5 := eq_true b5; have d9 := zA (show Kd.R k30 30 a4 w.heap.size (fun _ => True) (.slice (some ⟨a3, 0, none⟩) a1.length d3) a1 from (zR a2.out)); obtain ⟨h3, e0, e1, a8, b8⟩ := Kd.R_elem d9.out z30 (a0 : Int) (zD) (by have h_ : (a0 : Int) < ((a1.length : Int) : Int) := zD; first | exact h_ | (have e_ := (Kd.R_reads' a2.out).1; omega) | simpa using h_); obtain rfl := k30_openM e1; have b9 := Kd.R_seg d9.out (a0 : Int) (zD) (by have h_ : (a0 : Int) < ((a1.length : Int) : Int) := zD; first | exact h_ | (have e_ := (Kd.R_reads' a2.out).1; omega) | simpa using h_) (seg := [.string a5, .string a6]) (j := 0) e0 a8 (show 2 ≤ 2 from by decide) (x' := (⟨a5, a6⟩ : S30)) (k30_mkM _ _ _ (⟨a5, a6⟩ : S30) ) (fun _ hk => hk); have f6 := a8 0 _ rfl; (try simp only [show (k30).sz = 2 from rfl, Nat.mul_one, Nat.add_zero] at f6); have f7 := b8 0; (try simp only [show (k30).sz = 2 from rfl, Nat.mul_one, Nat.add_zero] at f7); have f8 := a8 1 _ rfl; (try simp only [show (k30).sz = 2 from rfl, Nat.mul_one, Nat.add_zero] at f8); have f9 := b8 1; (try simp only [show (k30).sz = 2 from rfl, Nat.mul_one, Nat.add_zero] at f9); clear e0 a8 b8; (try clear e1)) | ((with_reducible refine gate_store (t := 30) (p := 21) rfl ?_); refine store_event (t := 30) (p := 21) (v := ?vo_w13) (w1 := ((a4.setCell ⟨a3, (a0 : Int).toNat * 2, none⟩ (.string a5)).setCell ⟨a3, (a0 : Int).toNat * 2 + 1, none⟩ (.string a6))) ?hg ?ho ?hn ?hr ?_; (case ho => rfl); (case hg => rfl); (case hn => rfl); (case hr => first | (go_simp; done) | (go_simp; rfl)); intro c1 hw; have hg : a4.grownBy c1 (some a3) := (by rw [hw]; exact b9.2); have hp_ : Kd.R k30 30 c1 w.heap.size (fun _ => True) (.slice (some ⟨a3, 0, none⟩) a1.length d3) b0 := (by rw [hw, f2.out]; exact b9.1); clear b9; replace a2 := zA (hp_); replace HB := zA ((by rw [hw]; exact below_set (below_set (HB.out) d7.out) d7.out : Below w.heap.size w c1)); clear hg hw hp_))
    go_roundg k1
    case measure => have := d0.out; omega
    case rel => exact ⟨(b0), (wrap64 (a0 + 1)), zS, H', ⟨by have := d0.out; omega⟩, ⟨zR a2.out⟩, ⟨zB⟩⟩
   ·obtain rfl := Option.some.inj H
    go_wp2
    go_ret
    exact ⟨_, zE, zR a2.out, zB⟩
/-! ### laws_toCmd: function 111 -/
def laws_toCmd.f (k : Nat) (a0 : ByteArray) (a1 : List ByteArray) : Option (ByteArray × List ByteArray) := (laws_toStringS.f k a1).bind fun a2 => (some (a0, a2))
theorem laws_toCmd.calls (k : Nat) (a3 : ByteArray) (a5 : Option Addr) (a6 : Nat) (a2 : List ByteArray) (r1 : ByteArray) (r2 : List ByteArray) (w : World) (b1 : Kd.C Kd.string w a5 a2.length a2) (b2 : a2.length ≤ a6) (h : laws_toCmd.f k a3 a2 = some (r1, r2)) :
  Calls Tryz.prog 111 #[.agg #[.string a3, .slice a5 a2.length a6]] w fun e w' => ∃ b3 : Value, e = .returned (.agg #[.string r1, b3]) ∧ Kd.R Kd.string 9 w' w.heap.size (fun _ => True) b3 r2 ∧ Below w.heap.size w w' := by
 have c6 := Tryz.underlying134
 have c7 := Tryz.underlying93
 have b8 := Aside0.mk b1
 have b9 := Aside0.mk b2
 clear b1 b2
 have HB := zA (Below.refl w.heap.size w)
 unfold laws_toCmd.f at h
 have H := h
 clear h
 replace H := zj H
 obtain ⟨a7, A2, H⟩ := H
 try dsimp only at H
 simp only [Option.some.injEq, Prod.mk.injEq] at H
 obtain ⟨rfl, rfl⟩ := H
 go_enter Tryz.func111, Tryz.ntmps111
 go_wp2_with (first | ((with_reducible refine zd 1 ?_); refine ze 1 134 #[.string a3, .slice a5 a2.length a6] ?_; intro c8 hg w3 hbox hb; have a0 := zA (hbox); have c9 := zi HB hg; have d0 := zi HB hg; replace HB := zA (below_step (zB) hb); clear hb hbox hg) | ((with_reducible refine zd 2 ?_); refine ze 2 93 #[.string (⟨#[]⟩ : ByteArray), .slice none 0 0] ?_; intro a8 hg w4 hbox hb; have a1 := zA (hbox); have d1 := zi HB hg; have d2 := zi HB hg; replace HB := zh HB hb; have c0 := zA (zL hg (zK a0.out)); have c1 := zA (zJ hg (zK a0.out)); replace a0 := zb a0 hb; clear hb hbox hg) | ((with_reducible refine zd 3 ?_); refine ze 3 93 #[.string (⟨#[]⟩ : ByteArray), .slice none 0 0] ?_; intro b4 hg w5 hbox hb; have a4 := zA (hbox); have d3 := zi HB hg; have d4 := zi HB hg; replace HB := zh HB hb; have c2 := zA (zL hg (zK a0.out)); have c3 := zA (zJ hg (zK a0.out)); replace a0 := zb a0 hb; have b5 := zA (zL hg (zK a1.out)); have c4 := zA (zJ hg (zK a1.out)); replace a1 := zb a1 hb; clear hb hbox hg; have d5 := c0.out; have d6 := c1.out; have d7 := c2.out; have d8 := c3.out; obtain ⟨d9, e0, e1, e2⟩ := ze2 a0.out; have e3 := c4.out; have e4 := b5.out; obtain ⟨e5, e6, e7, e8⟩ := ze2 a4.out) | ((with_reducible refine zq 49 ?_); refine zg (some 9) Tryz.func49 #[.slice a5 a2.length a6] ?_; (with_reducible refine (laws_toStringS.calls k _ _ a2 a7 _ ?side1 ?side2 A2.out).mono ?_); (case side1 => exact Kd.C_below b8.out (zW HB.out)); (case side2 => exact b9.out); rintro e e9 ⟨f0, rfl, b6, hb⟩; refine ⟨_, rfl, ?_⟩; have b7 := zA (Kd.R_lower b6 (below_size (zW HB.out))); replace a0 := zb a0 hb; replace a1 := zb a1 hb; replace a4 := zA (blk_below (g := b4) (o := .cells #[.string a3, .slice none 0 0] 93 (0, 0)) (by (with_reducible repeat (first | refine blk_drewN ?_ _ | refine blk_drew ?_ | refine blk_alloc ?_ _)); refine blk_put (cs := #[.string (⟨#[]⟩ : ByteArray), .slice none 0 0]) ?_ 0 _ rfl; (with_reducible repeat (first | refine blk_drewN ?_ _ | refine blk_drew ?_ | refine blk_alloc ?_ _)); exact a4.out) hb); replace HB := zh HB hb; (try clear hb b6); obtain ⟨a9, b0, c5⟩ := Kd.R_slice b7.out; subst c5; obtain ⟨f1, f2, f3, f4⟩ := ze2 a4.out; obtain ⟨f5, f6, f7, f8⟩ := ze2 a1.out))
 refine bodyPost_ret (results_cell_row rfl _ _ a8 93 #[.string a3, .slice a9 a7.length b0] (0, 0) _ rfl (by (with_reducible repeat (first | refine blk_drewN ?_ _ | refine blk_drew ?_ | refine blk_alloc ?_ _)); refine blk_put (cs := #[.string a3, .slice none 0 0]) ?_ 1 _ rfl; (with_reducible repeat (first | refine blk_drewN ?_ _ | refine blk_drew ?_ | refine blk_alloc ?_ _)); refine blk_put (cs := #[.string (⟨#[]⟩ : ByteArray), .slice none 0 0]) ?_ 0 _ rfl; (with_reducible repeat (first | refine blk_drewN ?_ _ | refine blk_drew ?_ | refine blk_alloc ?_ _)); refine blk_far ?_ b5.out _; (with_reducible repeat (first | refine blk_drewN ?_ _ | refine blk_drew ?_ | refine blk_alloc ?_ _)); exact a1.out) Tryz.underlying93 rfl (by kernel_rfl)) rfl ?_
 exact ⟨_, zE, zR (Kd.R_mono (Kd.R_far (p := ⟨a8, 1, none⟩) (Kd.R_far (p := ⟨a8, 0, none⟩) (Kd.R_far (p := ⟨b4, 1, none⟩) (Kd.R_types (Kd.R_types b7.out a4.out (by decide)) a1.out (by decide)) (fun _ hk => hk.1.2) (.slice a9 a7.length b0)) (fun _ hk => hk.2) (.string a3)) (fun _ hk => hk.2) (.slice a9 a7.length b0)) (fun _ hk => trivial)), zW HB.out⟩
/-! ### laws_toCmdS: function 59 -/
def laws_toCmdS.l0 : Nat → List (S134) → List (S93) → Int → Option ((List (S93)))
 | 0, _, _, _ => none
 | k + 1, x0, x3, x4 => if x4 < (x0.length : Int) then (if 0 ≤ x4 then ((laws_toCmd.f k ((rd_T134 x0 x4).f0) ((rd_T134 x0 x4).f1)).bind fun a0 => (if x4 < (x3.length : Int) then (laws_toCmdS.l0 k x0 (x3.set (x4 : Int).toNat (⟨a0.1, a0.2⟩ : S93)) (wrap64 (x4 + 1))) else (none))) else (none)) else (some x3)
def laws_toCmdS.f (k : Nat) (l0 : List (S134)) : Option ((List (S93))) := if 0 ≤ (l0.length : Int) then (if ((l0.length : Int) : Int).toNat ≤ 7036874417766 then (laws_toCmdS.l0 k l0 (List.replicate ((l0.length : Int) : Int).toNat z93) 0) else (none)) else (none)
theorem laws_toCmdS.calls (k : Nat) (A0 : Option Addr) (c0 : Nat) (l0 : List (S134)) (r : List (S93)) (w : World) (c8 : Kd.C k134 w A0 l0.length l0) (c9 : l0.length ≤ c0) (h : laws_toCmdS.f k l0 = some r) :
  Calls Tryz.prog 59 #[.slice A0 l0.length c0] w fun e w' => ∃ d0 : Value, e = .returned (d0) ∧ Kd.S k93 93 w' w.heap.size (fun _ => True) d0 r ∧ Below w.heap.size w w' := by
 have h2 := Tryz.underlying134
 have h3 := Tryz.underlying93
 have e6 := Aside0.mk c8
 have h4 := Aside0.mk c9
 clear c8 c9
 have HB := zA (Below.refl w.heap.size w)
 unfold laws_toCmdS.f at h
 have H := h
 clear h
 replace H := zC0 H
 obtain ⟨c2, H⟩ := H
 have e7 := eq_true c2
 have e8 := decide_eq_true c2
 clear c2
 replace H := zC0 H
 obtain ⟨c3, H⟩ := H
 have e9 := eq_true c3
 have f2 := decide_eq_true c3
 clear c3
 obtain ⟨d1, b0⟩ : ∃ y_ : List (S93), y_ = (List.replicate ((l0.length : Int) : Int).toNat z93) := ⟨_, rfl⟩
 replace H : (laws_toCmdS.l0 k l0 d1 0) = some r := zY b0 H
 have d2 := Aside0.mk b0
 clear b0
 have H' := Aside0.mk H
 clear H
 go_enter Tryz.func59, Tryz.ntmps59
 go_wp2_with (first | ((with_reducible refine gate_dst (N := 7) rfl ?_); refine Kd.S_make k93 _ 93 rfl (N := 7) rfl 43 _ _ rfl (l0.length : Int) rfl rfl Tryz.underlying43 (.agg #[(.string ⟨#[]⟩), (.slice none 0 0)]) 40 info93 rfl (by decide) (by omega) z93 (ok := fun _ => True) (okp := fun _ => True) (k93_mkM _ _ _ z93 (Kd.R_nil _ _ _ _ _)) (fun _ hk => hk) trivial (zD) (Nat.le_trans (Nat.mul_le_mul_right _ (zD : (l0.length : Int).toNat ≤ 7036874417766)) (by omega)) (Below.refl _ _) (Nat.le_refl _) ?_; intro f3 w4 a6 hb hg_ hnew_; clear hg_ hnew_; (first | rw [← d2.out] at a6 | (simp only [Int.reduceToNat] at a6; rw [← d2.out] at a6)); have f4 := zA (Kd.S_lower a6 (below_size (zB))); replace HB := zA (below_step (zB) hb); clear hb a6))
 go_loopg [4] k (fun kq v4 w' => ∃ (a2 : List (S93)) (a0 : Int), v4 = .int .i64 a0 ∧ Aside0 (laws_toCmdS.l0 kq l0 a2 a0 = some r) ∧ Aside0 (kq ≤ k) ∧ Aside0 (Kd.S k93 93 w' w.heap.size (fun _ => True) f3 a2) ∧ Aside0 (Below w.heap.size w w'))
 case atStart => exact ⟨(d1), (0), zS, H', ⟨Nat.le_refl _⟩, ⟨by (with_reducible repeat (first | apply Kd.S_alloc | apply Kd.S_drewN | apply Kd.S_drew)); exact f4.out⟩, ⟨zB⟩⟩
 case round =>
  clear H'
  try clear c2
  try clear e7
  try clear e8
  try clear p2
  try clear c3
  try clear e9
  try clear f2
  try clear c5
  obtain ⟨a2, a0, rfl, HA, d3, a1, HB⟩ := hrel
  cases gk with
  | zero => exact absurd HA.out (by simp [laws_toCmdS.l0])
  | succ k1 =>
   have H := HA.out
   clear HA
   simp only [laws_toCmdS.l0] at H
   replace H := zI0 H
   rcases H with ⟨f5, H⟩ | ⟨f5, H⟩
   ·replace H := zD0 H
    obtain ⟨h5, H⟩ := H
    replace H := zj H
    obtain ⟨⟨a5, a7⟩, A8, H⟩ := H
    try dsimp only at H
    replace H := zD0 H
    obtain ⟨h6, H⟩ := H
    obtain ⟨b1, b2⟩ : ∃ y_ : List (S93), y_ = (a2.set (a0 : Int).toNat (⟨a5, a7⟩ : S93)) := ⟨_, rfl⟩
    replace H : (laws_toCmdS.l0 k1 l0 b1 (wrap64 (a0 + 1))) = some r := zY b2 H
    have f6 := Aside0.mk b2
    clear b2
    have H' := Aside0.mk H
    clear H
    have b3 : 0 ≤ (a0 : Int) := zD
    have b4 : a0 < (l0.length : Int) := zD
    obtain ⟨h7, f7, f8, f9, d4, d5, d6, d7⟩ := at_T134 e6.out a0 b3 b4
    cases f9
    replace d4 := zx HB d4
    replace d5 := zx HB d5
    have g0 := Aside0.mk d7
    have g1 := Aside0.mk d6
    clear d7 d6
    replace b3 := eq_true b3
    replace b4 := eq_true b4
    go_wp2_with (first | ((with_reducible refine zq 111 ?_); refine zg (some 20) Tryz.func111 #[.agg #[.string ((rd_T134 l0 a0).f0), .slice f7 ((rd_T134 l0 a0).f1).length f8]] ?_; (with_reducible refine (laws_toCmd.calls k1 ((rd_T134 l0 a0).f0) _ _ ((rd_T134 l0 a0).f1) a5 a7 _ ?side1 ?side2 A8.out).mono ?_); (case side1 => exact zC (Kd.C_below g0.out HB.out)); (case side2 => exact g1.out); rintro e a4 ⟨a8, rfl, b5, hb⟩; refine ⟨_, rfl, ?_⟩; replace a1 := zA (Kd.S_elder' (by (with_reducible repeat (first | apply Kd.S_alloc | apply Kd.S_drewN | apply Kd.S_drew)); exact a1.out) (Kd.R_base b5) hb); have a9 := zA (Kd.R_lower b5 (below_size (zB))); replace HB := zA (below_step (zB) hb); (try clear hb b5); have b6 : 0 ≤ (a0 : Int) := zD; have b7 : (a0 : Int) < ((a2.length : Int) : Int) := zD; obtain ⟨a3, d8, d9, e0, g2, h8, e1⟩ := Kd.S_form a1.out (by omega); (first | cases d9 | (injection d9 with ea_ en_ ec_; (first | subst ea_ | (injection ea_ with ea_; subst ea_)); subst ec_; clear en_)); have e2 := Aside0.mk e0; have h9 := Aside0.mk e1; clear e0 g2 e1; obtain ⟨_, i0, g3, e3, b8, b9, _, _⟩ := Kd.S_elem a1.out z93 (a0 : Int) b6 b7; obtain ⟨g4, rfl, i1⟩ := k93_openM e3; have i2 : a4.cell? ⟨a3, (a0 : Int).toNat * 2, none⟩ = some (.string ((rd_T93 a2 a0).f0)) := b8 0 _ rfl; have i3 : a4.cell? ⟨a3, (a0 : Int).toNat * 2 + 1, none⟩ = some (g4) := b8 1 _ rfl; have i4 : a4.frozen? ⟨a3, (a0 : Int).toNat * 2, none⟩ = false := b9 0; have i5 : a4.frozen? ⟨a3, (a0 : Int).toNat * 2 + 1, none⟩ = false := b9 1; clear g3 b8 b9; (try clear e3); replace b6 := eq_true b6; replace b7 := eq_true b7; have n_ := zA (Kd.S_mono (ok' := (fun k_ => some k_ ≠ (a8 : Value).ownBlock)) a1.out (fun k_ hk => hk.2)); clear a1; have a1 := n_; clear n_; have g5 := zA (show Kd.S k93 93 a4 w.heap.size (fun k_ => ((fun _ => True)) k_ ∧ ¬ ((fun k_ => some k_ = (a8 : Value).ownBlock)) k_) (.slice (some ⟨a3, 0, none⟩) a2.length d8) a2 from (by (with_reducible repeat (first | apply Kd.S_alloc | apply Kd.S_drewN | apply Kd.S_drew)); exact Kd.S_mono a1.out (fun k_ hk => ⟨trivial, fun e_ => hk e_⟩))); obtain ⟨i6, i7, g6, e4, c1, c4, g7, e5⟩ := Kd.S_elem g5.out z93 (a0 : Int) (zD) (by have h_ : (a0 : Int) < ((a2.length : Int) : Int) := zD; first | exact h_ | (have e_ := (Kd.S_reads' a1.out).1; omega) | simpa using h_); obtain ⟨i8, rfl, i9⟩ := k93_openM e4; have c6 := Kd.S_seg e5 (zD) (by have h_ : (a0 : Int) < ((a2.length : Int) : Int) := zD; first | exact h_ | (have e_ := (Kd.S_reads' a1.out).1; omega) | simpa using h_) (seg := [.string a5, a8]) (j := 0) (show 2 ≤ 2 from by decide) (x' := (⟨a5, a7⟩ : S93)) (k93_mkM _ _ _ (⟨a5, a7⟩ : S93) (Kd.R_mono (Kd.R_tight rfl (Kd.R_mono (ok' := fun k_ => ((fun _ => True)) k_ ∧ k_ ≠ a3) (Kd.R_apart' (a9.out) (Kd.S_typed a1.out) (by decide)) (fun k_ hk => ⟨trivial, fun e_ => (hk.2) (by rw [e_]; rfl)⟩))) (fun _ h_ => Or.inr (h_)))) (fun _ hk => hk) (fun k_ hk_ => ((Kd.R_mono (ok' := fun k_ => ((fun _ => True)) k_ ∧ k_ ≠ a3) (Kd.R_apart' (a9.out) (Kd.S_typed a1.out) (by decide)) (fun k_ hk => ⟨trivial, fun e_ => (hk.2) (by rw [e_]; rfl)⟩))).1 k_ hk_.symm); have g8 := c1 0 _ rfl; (try simp only [show (k93).sz = 2 from rfl, Nat.mul_one, Nat.add_zero] at g8); have g9 := c4 0; (try simp only [show (k93).sz = 2 from rfl, Nat.mul_one, Nat.add_zero] at g9); have h0 := c1 1 _ rfl; (try simp only [show (k93).sz = 2 from rfl, Nat.mul_one, Nat.add_zero] at h0); have h1 := c4 1; (try simp only [show (k93).sz = 2 from rfl, Nat.mul_one, Nat.add_zero] at h1); clear g6 c1 c4; (try clear e4); clear g7 e5) | ((with_reducible refine gate_store (t := 93) (p := 21) rfl ?_); refine store_event (t := 93) (p := 21) (v := ?vo_w13) (w1 := ((a4.setCell ⟨a3, (a0 : Int).toNat * 2, none⟩ (.string a5)).setCell ⟨a3, (a0 : Int).toNat * 2 + 1, none⟩ (a8))) ?hg ?ho ?hn ?hr ?_; (case ho => rfl); (case hg => rfl); (case hn => rfl); (case hr => first | (go_simp; done) | (go_simp; rfl) | ((try (obtain ⟨_, _, e_⟩ := Kd.R_slice a9.out; subst e_)); first | (go_simp; done) | (go_simp; rfl))); intro c7 hw; have hg : a4.grownBy c7 (some a3) := (by rw [hw]; exact c6.2); have hp_ : Kd.S k93 93 c7 w.heap.size (fun _ => True) (.slice (some ⟨a3, 0, none⟩) a2.length d8) b1 := (by rw [hw, f6.out]; exact c6.1); clear c6; replace a1 := zA (hp_); replace HB := zA ((by rw [hw]; exact below_set (below_set (HB.out) e2.out) e2.out : Below w.heap.size w c7)); clear a9; clear hg hw hp_))
    go_roundg k1
    case measure => have := d3.out; omega
    case rel => exact ⟨(b1), (wrap64 (a0 + 1)), zS, H', ⟨by have := d3.out; omega⟩, ⟨by (with_reducible repeat (first | apply Kd.S_alloc | apply Kd.S_drewN | apply Kd.S_drew)); exact a1.out⟩, ⟨zB⟩⟩
   ·obtain rfl := Option.some.inj H
    go_wp2
    go_ret
    exact ⟨_, zE, by (with_reducible repeat (first | apply Kd.S_alloc | apply Kd.S_drewN | apply Kd.S_drew)); exact a1.out, zB⟩
/-! ### laws_toPack: function 18 -/
def laws_toPack.f (k : Nat) (a0 : ByteArray) (a1 : List ByteArray) (a2 : List (S23)) (a3 : List (S134)) : Option (ByteArray × List ByteArray × (List (S30)) × (List (S93))) := (laws_toStringS.f k a1).bind fun a4 => ((laws_toNeedS.f k a2).bind fun a5 => ((laws_toCmdS.f k a3).bind fun a6 => (some (a0, a4, a5, a6))))
theorem laws_toPack.calls (k : Nat) (a2 : ByteArray) (c0 : Option Addr) (c1 : Nat) (b2 : List ByteArray) (c2 : Option Addr) (c3 : Nat) (b3 : List (S23)) (c4 : Option Addr) (c5 : Nat) (b4 : List (S134)) (r1 : ByteArray) (r2 : List ByteArray) (r3 : List (S30)) (r4 : List (S93)) (w : World) (c8 : Kd.C Kd.string w c0 b2.length b2) (c9 : b2.length ≤ c1) (d0 : Kd.C k23 w c2 b3.length b3) (d1 : b3.length ≤ c3) (d2 : Kd.C k134 w c4 b4.length b4) (d3 : b4.length ≤ c5) (h : laws_toPack.f k a2 b2 b3 b4 = some (r1, r2, r3, r4)) :
  Calls Tryz.prog 18 #[.agg #[.string a2, .slice c0 b2.length c1, .slice c2 b3.length c3, .slice c4 b4.length c5]] w fun e w' => ∃ c7 d4 d5 : Value, e = .returned (.agg #[.string r1, c7, d4, d5]) ∧ Kd.R Kd.string 9 w' w.heap.size (fun _ => True) c7 r2 ∧ Kd.R k30 30 w' w.heap.size (fun _ => True) d4 r3 ∧ Kd.S k93 93 w' w.heap.size (fun k_ => some k_ ≠ (c7 : Value).ownBlock) d5 r4 ∧ Below w.heap.size w w' := by
 have f2 := Tryz.underlying39
 have f3 := Tryz.underlying45
 have d8 := Aside0.mk c8
 have d9 := Aside0.mk c9
 clear c8 c9
 have e0 := Aside0.mk d0
 have e1 := Aside0.mk d1
 clear d0 d1
 have e2 := Aside0.mk d2
 have e3 := Aside0.mk d3
 clear d2 d3
 have HB := zA (Below.refl w.heap.size w)
 unfold laws_toPack.f at h
 have H := h
 clear h
 replace H := zj H
 obtain ⟨a5, A2, H⟩ := H
 try dsimp only at H
 replace H := zj H
 obtain ⟨a6, A3, H⟩ := H
 try dsimp only at H
 replace H := zj H
 obtain ⟨b5, A4, H⟩ := H
 try dsimp only at H
 simp only [Option.some.injEq, Prod.mk.injEq] at H
 obtain ⟨rfl, rfl, rfl, rfl⟩ := H
 go_enter Tryz.func18, Tryz.ntmps18
 go_wp2_with (first | ((with_reducible refine zd 1 ?_); refine ze 1 39 #[.string a2, .slice c0 b2.length c1, .slice c2 b3.length c3, .slice c4 b4.length c5] ?_; intro f4 hg w5 hbox hb; have a0 := zA (hbox); have f5 := zi HB hg; have f6 := zi HB hg; replace HB := zA (below_step (zB) hb); clear hb hbox hg) | ((with_reducible refine zd 2 ?_); refine ze 2 45 #[.string (⟨#[]⟩ : ByteArray), .slice none 0 0, .slice none 0 0, .slice none 0 0] ?_; intro a4 hg w6 hbox hb; have a3 := zA (hbox); have f7 := zi HB hg; have f8 := zi HB hg; replace HB := zh HB hb; have e4 := zA (zL hg (zK a0.out)); have e5 := zA (zJ hg (zK a0.out)); replace a0 := zb a0 hb; clear hb hbox hg) | ((with_reducible refine zd 3 ?_); refine ze 3 45 #[.string (⟨#[]⟩ : ByteArray), .slice none 0 0, .slice none 0 0, .slice none 0 0] ?_; intro a7 hg w7 hbox hb; have a1 := zA (hbox); have f9 := zi HB hg; have g0 := zi HB hg; replace HB := zh HB hb; have e6 := zA (zL hg (zK a0.out)); have e7 := zA (zJ hg (zK a0.out)); replace a0 := zb a0 hb; have d6 := zA (zL hg (zK a3.out)); have e8 := zA (zJ hg (zK a3.out)); replace a3 := zb a3 hb; clear hb hbox hg; have g1 := e4.out; have g2 := e5.out; have g3 := e6.out; have g4 := e7.out; obtain ⟨g5, g6, g7, g8, g9, h0, h1, h2⟩ := ze4 a0.out; have h3 := e8.out; have h4 := d6.out; obtain ⟨h5, h6, h7, h8, h9, i0, i1, i2⟩ := ze4 a1.out) | ((with_reducible refine zq 49 ?_); refine zg (some 9) Tryz.func49 #[.slice c0 b2.length c1] ?_; (with_reducible refine (laws_toStringS.calls k _ _ b2 a5 _ ?side1 ?side2 A2.out).mono ?_); (case side1 => exact Kd.C_below d8.out (zW HB.out)); (case side2 => exact d9.out); rintro e i3 ⟨i4, rfl, b6, hb⟩; refine ⟨_, rfl, ?_⟩; have b7 := zA (Kd.R_lower b6 (below_size (zW HB.out))); replace a0 := zb a0 hb; replace a3 := zb a3 hb; replace a1 := zA (blk_below (g := a7) (o := .cells #[.string a2, .slice none 0 0, .slice none 0 0, .slice none 0 0] 45 (0, 0)) (by (with_reducible repeat (first | refine blk_drewN ?_ _ | refine blk_drew ?_ | refine blk_alloc ?_ _)); refine blk_put (cs := #[.string (⟨#[]⟩ : ByteArray), .slice none 0 0, .slice none 0 0, .slice none 0 0]) ?_ 0 _ rfl; (with_reducible repeat (first | refine blk_drewN ?_ _ | refine blk_drew ?_ | refine blk_alloc ?_ _)); exact a1.out) hb); replace HB := zh HB hb; (try clear hb b6); obtain ⟨a8, a9, e9⟩ := Kd.R_slice b7.out; subst e9; obtain ⟨i5, i6, i7, i8, i9, j0, j1, j2⟩ := ze4 a1.out; obtain ⟨j3, j4, j5, j6, j7, j8, j9, k0⟩ := ze4 a0.out) | ((with_reducible refine zq 58 ?_); refine zg (some 13) Tryz.func58 #[.slice c2 b3.length c3] ?_; (with_reducible refine (laws_toNeedS.calls k _ _ b3 a6 _ ?side1 ?side2 A3.out).mono ?_); (case side1 => exact Kd.C_below e0.out (zW HB.out)); (case side2 => exact e1.out); rintro e k1 ⟨k2, rfl, b6, hb⟩; refine ⟨_, rfl, ?_⟩; replace b7 := zA (Kd.R_below (zR (Kd.R_mono (Kd.R_far (p := ⟨a7, 1, none⟩) (Kd.R_types b7.out a1.out (by decide)) (fun _ hk => hk.2) (.slice a8 a5.length a9)) (fun _ h_ => h_.1))) hb); have c6 := zA (Kd.R_lower b6 (below_size (zW HB.out))); replace a0 := zb a0 hb; replace a3 := zb a3 hb; replace a1 := zA (blk_below (g := a7) (o := .cells #[.string a2, .slice a8 a5.length a9, .slice none 0 0, .slice none 0 0] 45 (0, 0)) (by (with_reducible repeat (first | refine blk_drewN ?_ _ | refine blk_drew ?_ | refine blk_alloc ?_ _)); refine blk_put (cs := #[.string a2, .slice none 0 0, .slice none 0 0, .slice none 0 0]) ?_ 1 _ rfl; (with_reducible repeat (first | refine blk_drewN ?_ _ | refine blk_drew ?_ | refine blk_alloc ?_ _)); exact a1.out) hb); replace HB := zh HB hb; (try clear hb b6); obtain ⟨b0, b1, f0⟩ := Kd.R_slice c6.out; subst f0; obtain ⟨k3, k4, k5, k6, k7, k8, k9, l0⟩ := ze4 a1.out; obtain ⟨l1, l2, l3, l4, l5, l6, l7, l8⟩ := ze4 a0.out) | ((with_reducible refine zq 59 ?_); refine zg (some 17) Tryz.func59 #[.slice c4 b4.length c5] ?_; (with_reducible refine (laws_toCmdS.calls k _ _ b4 b5 _ ?side1 ?side2 A4.out).mono ?_); (case side1 => exact Kd.C_below e2.out (zW HB.out)); (case side2 => exact e3.out); rintro e l9 ⟨m0, rfl, b6, hb⟩; refine ⟨_, rfl, ?_⟩; replace c6 := zA (Kd.R_below (zR (Kd.R_mono (Kd.R_far (p := ⟨a7, 2, none⟩) (Kd.R_types c6.out a1.out (by decide)) (fun _ hk => hk.2) (.slice b0 a6.length b1)) (fun _ h_ => h_.1))) hb); have d7 := zA (Kd.S_lower (Kd.S_new' b6 (Kd.R_lt (zR (Kd.R_mono (Kd.R_far (p := ⟨a7, 2, none⟩) (Kd.R_types b7.out a1.out (by decide)) (fun _ hk => hk.2) (.slice b0 a6.length b1)) (fun _ h_ => h_.1))))) (below_size (zW HB.out))); replace b7 := zA (Kd.R_below (zR (Kd.R_mono (Kd.R_far (p := ⟨a7, 2, none⟩) (Kd.R_types b7.out a1.out (by decide)) (fun _ hk => hk.2) (.slice b0 a6.length b1)) (fun _ h_ => h_.1))) hb); replace a0 := zb a0 hb; replace a3 := zb a3 hb; replace a1 := zA (blk_below (g := a7) (o := .cells #[.string a2, .slice a8 a5.length a9, .slice b0 a6.length b1, .slice none 0 0] 45 (0, 0)) (by (with_reducible repeat (first | refine blk_drewN ?_ _ | refine blk_drew ?_ | refine blk_alloc ?_ _)); refine blk_put (cs := #[.string a2, .slice a8 a5.length a9, .slice none 0 0, .slice none 0 0]) ?_ 2 _ rfl; (with_reducible repeat (first | refine blk_drewN ?_ _ | refine blk_drew ?_ | refine blk_alloc ?_ _)); exact a1.out) hb); replace HB := zh HB hb; (try clear hb b6); obtain ⟨b8, b9, f1⟩ := Kd.S_slice d7.out; subst f1; obtain ⟨m1, m2, m3, m4, m5, m6, m7, m8⟩ := ze4 a1.out; obtain ⟨m9, n0, n1, n2, n3, n4, n5, n6⟩ := ze4 a3.out))
 refine bodyPost_ret (results_cell_row rfl _ _ a4 45 #[.string a2, .slice a8 a5.length a9, .slice b0 a6.length b1, .slice b8 b5.length b9] (0, 0) _ rfl (by (with_reducible repeat (first | refine blk_drewN ?_ _ | refine blk_drew ?_ | refine blk_alloc ?_ _)); refine blk_put (cs := #[.string a2, .slice a8 a5.length a9, .slice b0 a6.length b1, .slice none 0 0]) ?_ 3 _ rfl; (with_reducible repeat (first | refine blk_drewN ?_ _ | refine blk_drew ?_ | refine blk_alloc ?_ _)); refine blk_put (cs := #[.string a2, .slice a8 a5.length a9, .slice none 0 0, .slice none 0 0]) ?_ 2 _ rfl; (with_reducible repeat (first | refine blk_drewN ?_ _ | refine blk_drew ?_ | refine blk_alloc ?_ _)); refine blk_put (cs := #[.string a2, .slice none 0 0, .slice none 0 0, .slice none 0 0]) ?_ 1 _ rfl; (with_reducible repeat (first | refine blk_drewN ?_ _ | refine blk_drew ?_ | refine blk_alloc ?_ _)); refine blk_put (cs := #[.string (⟨#[]⟩ : ByteArray), .slice none 0 0, .slice none 0 0, .slice none 0 0]) ?_ 0 _ rfl; (with_reducible repeat (first | refine blk_drewN ?_ _ | refine blk_drew ?_ | refine blk_alloc ?_ _)); refine blk_far ?_ d6.out _; (with_reducible repeat (first | refine blk_drewN ?_ _ | refine blk_drew ?_ | refine blk_alloc ?_ _)); exact a3.out) Tryz.underlying45 rfl (by kernel_rfl)) rfl ?_
 exact ⟨_, _, _, zE, zR (Kd.R_mono (Kd.R_far (p := ⟨a4, 3, none⟩) (Kd.R_far (p := ⟨a4, 2, none⟩) (Kd.R_far (p := ⟨a4, 1, none⟩) (Kd.R_far (p := ⟨a4, 0, none⟩) (Kd.R_far (p := ⟨a7, 3, none⟩) (Kd.R_types (Kd.R_types b7.out a1.out (by decide)) a3.out (by decide)) (fun _ hk => hk.1.2) (.slice b8 b5.length b9)) (fun _ hk => hk.2) (.string a2)) (fun _ hk => hk.2) (.slice a8 a5.length a9)) (fun _ hk => hk.2) (.slice b0 a6.length b1)) (fun _ hk => hk.2) (.slice b8 b5.length b9)) (fun _ hk => trivial)), zR (Kd.R_mono (Kd.R_far (p := ⟨a4, 3, none⟩) (Kd.R_far (p := ⟨a4, 2, none⟩) (Kd.R_far (p := ⟨a4, 1, none⟩) (Kd.R_far (p := ⟨a4, 0, none⟩) (Kd.R_far (p := ⟨a7, 3, none⟩) (Kd.R_types (Kd.R_types c6.out a1.out (by decide)) a3.out (by decide)) (fun _ hk => hk.1.2) (.slice b8 b5.length b9)) (fun _ hk => hk.2) (.string a2)) (fun _ hk => hk.2) (.slice a8 a5.length a9)) (fun _ hk => hk.2) (.slice b0 a6.length b1)) (fun _ hk => hk.2) (.slice b8 b5.length b9)) (fun _ hk => trivial)), by (with_reducible repeat (first | apply Kd.S_alloc | apply Kd.S_drewN | apply Kd.S_drew)); exact Kd.S_mono (Kd.S_far (p := ⟨a4, 3, none⟩) (Kd.S_far (p := ⟨a4, 2, none⟩) (Kd.S_far (p := ⟨a4, 1, none⟩) (Kd.S_far (p := ⟨a4, 0, none⟩) (Kd.S_far (p := ⟨a7, 3, none⟩) (Kd.S_types (Kd.S_types d7.out a1.out (by decide)) a3.out (by decide)) (fun _ hk => hk.1.2) (.slice b8 b5.length b9)) (fun _ hk => hk.2) (.string a2)) (fun _ hk => hk.2) (.slice a8 a5.length a9)) (fun _ hk => hk.2) (.slice b0 a6.length b1)) (fun _ hk => hk.2) (.slice b8 b5.length b9)) (fun _ hk => hk.1.1.2), zW HB.out⟩
/-! ### impl_inRange: function 113 -/
def impl_inRange.f (a0 a1 a2 : Int) : Option (Bool) := if a0 ≥ a1 then (some (decide (a0 ≤ a2))) else (some false)
theorem impl_inRange.calls (a0 a1 a2 : Int) (r : Bool) (w : World) (h : impl_inRange.f a0 a1 a2 = some r) :
  Calls Tryz.prog 113 #[.int .i64 a0, .int .i64 a1, .int .i64 a2] w fun e w' => e = .returned (.bool r) ∧ Drawn0 w w' := by
 unfold impl_inRange.f at h
 have H := h
 clear h
 replace H := zI1 H
 rcases H with ⟨c4, H⟩ | ⟨c4, H⟩
 ·have a3 : decide (a1 ≤ a0) = true := decide_eq_true c4
  clear c4
  obtain rfl := Option.some.inj H
  go_enter Tryz.func113, Tryz.ntmps113
  go_wp2
  go_ret
  exact ⟨by first | rfl | (simp; done) | (simp [*]; done) | (simp; rw [Bool.eq_iff_iff]; simp; done), by repeat (first | exact Drawn0.refl _ | apply Drawn0.step)⟩
 ·have a3 : decide (a1 ≤ a0) = false := decide_eq_false c4
  clear c4
  obtain rfl := Option.some.inj H
  go_enter Tryz.func113, Tryz.ntmps113
  go_wp2
  go_ret
  exact ⟨by first | rfl | (simp; done) | (simp [*]; done) | (simp; rw [Bool.eq_iff_iff]; simp; done), by repeat (first | exact Drawn0.refl _ | apply Drawn0.step)⟩
/-! ### impl_isSmall: function 114 -/
def impl_isSmall.f (a0 : Int) : Option (Bool) := if a0 ≥ 97 then (some (decide (a0 ≤ 122))) else (some false)
theorem impl_isSmall.calls (a0 : Int) (r : Bool) (w : World) (h : impl_isSmall.f a0 = some r) :
  Calls Tryz.prog 114 #[.int .u8 a0] w fun e w' => e = .returned (.bool r) ∧ Drawn0 w w' := by
 unfold impl_isSmall.f at h
 have H := h
 clear h
 replace H := zI1 H
 rcases H with ⟨c2, H⟩ | ⟨c2, H⟩
 ·have a1 : decide (97 ≤ a0) = true := decide_eq_true c2
  clear c2
  obtain rfl := Option.some.inj H
  go_enter Tryz.func114, Tryz.ntmps114
  go_wp2
  go_ret
  exact ⟨by first | rfl | (simp; done) | (simp [*]; done) | (simp; rw [Bool.eq_iff_iff]; simp; done), by repeat (first | exact Drawn0.refl _ | apply Drawn0.step)⟩
 ·have a1 : decide (97 ≤ a0) = false := decide_eq_false c2
  clear c2
  obtain rfl := Option.some.inj H
  go_enter Tryz.func114, Tryz.ntmps114
  go_wp2
  go_ret
  exact ⟨by first | rfl | (simp; done) | (simp [*]; done) | (simp; rw [Bool.eq_iff_iff]; simp; done), by repeat (first | exact Drawn0.refl _ | apply Drawn0.step)⟩
/-! ### impl_isFigure: function 115 -/
def impl_isFigure.f (a0 : Int) : Option (Bool) := if a0 ≥ 48 then (some (decide (a0 ≤ 57))) else (some false)
theorem impl_isFigure.calls (a0 : Int) (r : Bool) (w : World) (h : impl_isFigure.f a0 = some r) :
  Calls Tryz.prog 115 #[.int .u8 a0] w fun e w' => e = .returned (.bool r) ∧ Drawn0 w w' := by
 unfold impl_isFigure.f at h
 have H := h
 clear h
 replace H := zI1 H
 rcases H with ⟨c2, H⟩ | ⟨c2, H⟩
 ·have a1 : decide (48 ≤ a0) = true := decide_eq_true c2
  clear c2
  obtain rfl := Option.some.inj H
  go_enter Tryz.func115, Tryz.ntmps115
  go_wp2
  go_ret
  exact ⟨by first | rfl | (simp; done) | (simp [*]; done) | (simp; rw [Bool.eq_iff_iff]; simp; done), by repeat (first | exact Drawn0.refl _ | apply Drawn0.step)⟩
 ·have a1 : decide (48 ≤ a0) = false := decide_eq_false c2
  clear c2
  obtain rfl := Option.some.inj H
  go_enter Tryz.func115, Tryz.ntmps115
  go_wp2
  go_ret
  exact ⟨by first | rfl | (simp; done) | (simp [*]; done) | (simp; rw [Bool.eq_iff_iff]; simp; done), by repeat (first | exact Drawn0.refl _ | apply Drawn0.step)⟩
/-! ### impl_NameOk: function 61 -/
mutual
def impl_NameOk.l0 : Nat → ByteArray → Int → Option (Bool)
 | 0, _, _ => none
 | k + 1, x0, x3 => if x3 < (x0.size : Int) then (impl_NameOk.j1 k x0 x3) else ((impl_inRange.f (x0.size : Int) 1 10).bind fun a0 => (some a0))
def impl_NameOk.j1 : Nat → ByteArray → Int → Option (Bool)
 | 0, _, _ => none
 | k + 1, x0, x3 => if 0 ≤ x3 then (if x3 < (x0.size : Int) then ((impl_isSmall.f (bt x0 x3)).bind fun a1 => (if a1 = true then (impl_NameOk.l0 k x0 (wrap64 (x3 + 1))) else (if x3 = 0 then (some false) else ((impl_isFigure.f (bt x0 x3)).bind fun a2 => (if a2 = true then (impl_NameOk.l0 k x0 (wrap64 (x3 + 1))) else (if (bt x0 x3) = 45 then (impl_NameOk.l0 k x0 (wrap64 (x3 + 1))) else (some false))))))) else (none)) else (none)
end
def impl_NameOk.f (k : Nat) (a0 : ByteArray) : Option (Bool) := impl_NameOk.l0 k a0 0
theorem impl_NameOk.calls (k : Nat) (a0 : ByteArray) (r : Bool) (w : World) (h : impl_NameOk.f k a0 = some r) :
  Calls Tryz.prog 61 #[.string a0] w fun e w' => e = .returned (.bool r) ∧ Drawn0 w w' := by
 unfold impl_NameOk.f at h
 have H := h
 clear h
 have H' := Aside0.mk H
 clear H
 go_enter Tryz.func61, Tryz.ntmps61
 go_wp2
 go_loopg [3] k (fun kq v3 w' => ∃ (a1 : Int), v3 = .int .i64 a1 ∧ Aside0 (impl_NameOk.l0 kq a0 a1 = some r) ∧ Aside0 (kq ≤ k) ∧ Drawn0 w w')
 case atStart => exact ⟨(0), zS, H', ⟨Nat.le_refl _⟩, by repeat (first | exact Drawn0.refl _ | apply Drawn0.step)⟩
 case round =>
  clear H'
  obtain ⟨a1, rfl, HA, a4, ⟨m1, rfl⟩⟩ := hrel
  cases gk with
  | zero => exact absurd HA.out (by simp [impl_NameOk.l0])
  | succ k1 =>
   have H := HA.out
   clear HA
   simp only [impl_NameOk.l0] at H
   have b2 := Aside0.mk H
   clear H
   go_upto_if 7 with (fail)
   go_cut [] (fun wc => ∃ (kq : Nat), Aside0 (impl_NameOk.j1 kq a0 a1 = some r) ∧ Aside0 (kq ≤ k1) ∧ Drawn0 w wc)
   case first =>
    have H := b2.out
    clear b2
    replace H := zI0 H
    rcases H with ⟨a5, H⟩ | ⟨a5, H⟩
    ·(first | rw [a5] | (simp only [i64_w, i32_w]; rw [a5]) | skip)
     have H' := Aside0.mk H
     clear H
     go_wp2
     go_meet
     case rel => exact ⟨_, (by first | exact H' | (subst_vars; exact H')), ⟨by have := a4.out; first | omega | exact Nat.le_refl _⟩, by repeat (first | exact Drawn0.refl _ | apply Drawn0.step)⟩
    ·(first | rw [a5] | (simp only [i64_w, i32_w]; rw [a5]) | skip)
     replace H := zj H
     obtain ⟨b6, A4, H⟩ := H
     try dsimp only at H
     obtain rfl := Option.some.inj H
     go_wp2_with (first | ((with_reducible refine zq 113 ?_); refine zg (some 34) Tryz.func113 #[.int .i64 (a0.size : Int), .int .i64 1, .int .i64 10] ?_; (with_reducible refine (impl_inRange.calls (a0.size : Int) 1 10 b6 _ A4.out).mono ?_); rintro e w' ⟨rfl, ⟨nd, rfl⟩⟩; refine ⟨_, rfl, ?_⟩))
     go_ret
     exact ⟨by first | rfl | (simp; done) | (simp [*]; done) | (simp; rw [Bool.eq_iff_iff]; simp; done), by repeat (first | exact Drawn0.refl _ | apply Drawn0.step)⟩
   case rest =>
    clear b2
    try clear c1
    try clear p2
    try clear c3
    try clear a5
    obtain ⟨kq, HA, a6, ⟨c4, rfl⟩⟩ := hcut
    cases kq with
    | zero => exact absurd HA.out (by simp [impl_NameOk.j1])
    | succ b3 =>
     have H := HA.out
     clear HA
     simp only [impl_NameOk.j1] at H
     replace H := zD0 H
     obtain ⟨c5, H⟩ := H
     replace H := zD0 H
     obtain ⟨c6, H⟩ := H
     replace H := zj H
     obtain ⟨c7, A8, H⟩ := H
     try dsimp only at H
     replace H := zB0 H
     rcases H with ⟨rfl, H⟩ | ⟨rfl, H⟩
     ·have H' := Aside0.mk H
      clear H
      have p7 : 0 ≤ (a1 : Int) := zD
      have q7 : a1 < (a0.size : Int) := zD
      have b1 := bt_at a0 a1
      replace p7 := eq_true p7
      replace q7 := eq_true q7
      go_wp2_with (first | ((with_reducible refine zq 114 ?_); refine zg (some 13) Tryz.func114 #[.int .u8 (bt a0 a1)] ?_; (with_reducible refine (impl_isSmall.calls (bt a0 a1) true _ A8.out).mono ?_); rintro e w' ⟨rfl, ⟨nd, rfl⟩⟩; refine ⟨_, rfl, ?_⟩))
      go_roundg b3
      case measure => have := a4.out; have := a6.out; omega
      case rel => exact ⟨(wrap64 (a1 + 1)), zS, H', ⟨by have := a4.out; have := a6.out; omega⟩, by repeat (first | exact Drawn0.refl _ | apply Drawn0.step)⟩
     ·replace H := zI1 H
      rcases H with ⟨a7, H⟩ | ⟨a7, H⟩
      ·have b7 := beq_iff_eq.mpr a7
       have b8 := bne_eq_false_iff_eq.mpr a7
       clear a7
       obtain rfl := Option.some.inj H
       have p7 : 0 ≤ (a1 : Int) := zD
       have q7 : a1 < (a0.size : Int) := zD
       have b1 := bt_at a0 a1
       replace p7 := eq_true p7
       replace q7 := eq_true q7
       go_wp2_with (first | ((with_reducible refine zq 114 ?_); refine zg (some 13) Tryz.func114 #[.int .u8 (bt a0 a1)] ?_; (with_reducible refine (impl_isSmall.calls (bt a0 a1) false _ A8.out).mono ?_); rintro e w' ⟨rfl, ⟨nd, rfl⟩⟩; refine ⟨_, rfl, ?_⟩))
       go_ret
       exact ⟨by first | rfl | (simp; done) | (simp [*]; done) | (simp; rw [Bool.eq_iff_iff]; simp; done), by repeat (first | exact Drawn0.refl _ | apply Drawn0.step)⟩
      ·have b7 := beq_eq_false_iff_ne.mpr a7
       have b8 := bne_iff_ne.mpr a7
       replace H := zj H
       obtain ⟨c8, b4, H⟩ := H
       try dsimp only at H
       replace H := zB0 H
       rcases H with ⟨rfl, H⟩ | ⟨rfl, H⟩
       ·have H' := Aside0.mk H
        clear H
        have p7 : 0 ≤ (a1 : Int) := zD
        have q7 : a1 < (a0.size : Int) := zD
        have b1 := bt_at a0 a1
        replace p7 := eq_true p7
        replace q7 := eq_true q7
        go_wp2_with (first | ((with_reducible refine zq 114 ?_); refine zg (some 13) Tryz.func114 #[.int .u8 (bt a0 a1)] ?_; (with_reducible refine (impl_isSmall.calls (bt a0 a1) false _ A8.out).mono ?_); rintro e w' ⟨rfl, ⟨nd, rfl⟩⟩; refine ⟨_, rfl, ?_⟩; have a2 : 0 ≤ (a1 : Int) := zD; have a3 : a1 < (a0.size : Int) := zD; have b5 := bt_at a0 a1; replace a2 := eq_true a2; replace a3 := eq_true a3) | (go_at_call 115; (with_reducible refine (impl_isFigure.calls (bt a0 a1) true _ b4.out).mono ?_); rintro e w' ⟨rfl, ⟨nd, rfl⟩⟩))
        go_roundg b3
        case measure => have := a4.out; have := a6.out; omega
        case rel => exact ⟨(wrap64 (a1 + 1)), zS, H', ⟨by have := a4.out; have := a6.out; omega⟩, by repeat (first | exact Drawn0.refl _ | apply Drawn0.step)⟩
       ·replace H := zI1 H
        rcases H with ⟨a8, H⟩ | ⟨a8, H⟩
        ·have b9 := beq_iff_eq.mpr a8
         have c0 := bne_eq_false_iff_eq.mpr a8
         clear a8
         have H' := Aside0.mk H
         clear H
         have p7 : 0 ≤ (a1 : Int) := zD
         have q7 : a1 < (a0.size : Int) := zD
         have b1 := bt_at a0 a1
         replace p7 := eq_true p7
         replace q7 := eq_true q7
         go_wp2_with (first | ((with_reducible refine zq 114 ?_); refine zg (some 13) Tryz.func114 #[.int .u8 (bt a0 a1)] ?_; (with_reducible refine (impl_isSmall.calls (bt a0 a1) false _ A8.out).mono ?_); rintro e w' ⟨rfl, ⟨nd, rfl⟩⟩; refine ⟨_, rfl, ?_⟩; have a2 : 0 ≤ (a1 : Int) := zD; have a3 : a1 < (a0.size : Int) := zD; have b5 := bt_at a0 a1; replace a2 := eq_true a2; replace a3 := eq_true a3) | (go_at_call 115; (with_reducible refine (impl_isFigure.calls (bt a0 a1) false _ b4.out).mono ?_); rintro e w' ⟨rfl, ⟨nd, rfl⟩⟩; have a9 : 0 ≤ (a1 : Int) := zD; have b0 : a1 < (a0.size : Int) := zD; have c2 := bt_at a0 a1; replace a9 := eq_true a9; replace b0 := eq_true b0))
         go_roundg b3
         case measure => have := a4.out; have := a6.out; omega
         case rel => exact ⟨(wrap64 (a1 + 1)), zS, H', ⟨by have := a4.out; have := a6.out; omega⟩, by repeat (first | exact Drawn0.refl _ | apply Drawn0.step)⟩
        ·have b9 := beq_eq_false_iff_ne.mpr a8
         have c0 := bne_iff_ne.mpr a8
         obtain rfl := Option.some.inj H
         have p7 : 0 ≤ (a1 : Int) := zD
         have q7 : a1 < (a0.size : Int) := zD
         have b1 := bt_at a0 a1
         replace p7 := eq_true p7
         replace q7 := eq_true q7
         go_wp2_with (first | ((with_reducible refine zq 114 ?_); refine zg (some 13) Tryz.func114 #[.int .u8 (bt a0 a1)] ?_; (with_reducible refine (impl_isSmall.calls (bt a0 a1) false _ A8.out).mono ?_); rintro e w' ⟨rfl, ⟨nd, rfl⟩⟩; refine ⟨_, rfl, ?_⟩; have a2 : 0 ≤ (a1 : Int) := zD; have a3 : a1 < (a0.size : Int) := zD; have b5 := bt_at a0 a1; replace a2 := eq_true a2; replace a3 := eq_true a3) | (go_at_call 115; (with_reducible refine (impl_isFigure.calls (bt a0 a1) false _ b4.out).mono ?_); rintro e w' ⟨rfl, ⟨nd, rfl⟩⟩; have a9 : 0 ≤ (a1 : Int) := zD; have b0 : a1 < (a0.size : Int) := zD; have c2 := bt_at a0 a1; replace a9 := eq_true a9; replace b0 := eq_true b0))
         go_ret
         exact ⟨by first | rfl | (simp; done) | (simp [*]; done) | (simp; rw [Bool.eq_iff_iff]; simp; done), by repeat (first | exact Drawn0.refl _ | apply Drawn0.step)⟩
/-! ### impl_isPlain: function 149 -/
def impl_isPlain.f (a0 : Int) : Option (Bool) := if a0 ≥ 32 then (some (decide (a0 ≤ 126))) else (some false)
theorem impl_isPlain.calls (a0 : Int) (r : Bool) (w : World) (h : impl_isPlain.f a0 = some r) :
  Calls Tryz.prog 149 #[.int .u8 a0] w fun e w' => e = .returned (.bool r) ∧ Drawn0 w w' := by
 unfold impl_isPlain.f at h
 have H := h
 clear h
 replace H := zI1 H
 rcases H with ⟨c2, H⟩ | ⟨c2, H⟩
 ·have a1 : decide (32 ≤ a0) = true := decide_eq_true c2
  clear c2
  obtain rfl := Option.some.inj H
  go_enter Tryz.func149, Tryz.ntmps149
  go_wp2
  go_ret
  exact ⟨by first | rfl | (simp; done) | (simp [*]; done) | (simp; rw [Bool.eq_iff_iff]; simp; done), by repeat (first | exact Drawn0.refl _ | apply Drawn0.step)⟩
 ·have a1 : decide (32 ≤ a0) = false := decide_eq_false c2
  clear c2
  obtain rfl := Option.some.inj H
  go_enter Tryz.func149, Tryz.ntmps149
  go_wp2
  go_ret
  exact ⟨by first | rfl | (simp; done) | (simp [*]; done) | (simp; rw [Bool.eq_iff_iff]; simp; done), by repeat (first | exact Drawn0.refl _ | apply Drawn0.step)⟩
end Go.Proofs.YtpcdhoeoefoeoaaGreatDoor.PGC
