/- The walks of the functions that these laws reach, and what each comes to: printed by this session's program. -/
import Derived.Test.YtbaeljcnbkeipaaDoorZGBPGBx0
import Derived.Test.YtbaeljcnbkeipaaDoorZGBPGBx1
import Derived.Test.YtbaeljcnbkeipaaDoorZGBSays
namespace Go.Proofs.YtbaeljcnbkeipaaDoor.PGB
open Go.RowKit YtbaeljcnbkeipaaDoorW.PrintWords YtbaeljcnbkeipaaDoorW.PrintLast YtbaeljcnbkeipaaDoorW.PrintMore
attribute [local go_sem high] Mine.str_gtr Mine.str_leq Mine.str_geq
attribute [local go_sem] max2_int min2_int max_two min_two max_three min_three max_four min_four   -- for this text's walks alone
set_option linter.unusedVariables false
set_option maxHeartbeats 8000000
set_option maxRecDepth 100000
set_option linter.unusedSimpArgs false
/-! ### spec_l1Below: function 104 -/
def spec_l1Below.j0 : Nat → Int → List Int → Int → Int → Option (Int × Int × Int)
 | 0, _, _, _, _ => none
 | k + 1, x1, a0, a5, a6 => if x1 ≤ 256 then ((spec_l1Byte.f a0 a5 a6).bind fun a1 => (if x1 = 0 then (none) else (some (Int.tmod a1.1 x1, a1.2.1, a1.2.2)))) else ((spec_l1Byte.f a0 a5 a6).bind fun a2 => ((spec_l1Byte.f a0 a2.2.1 a2.2.2).bind fun a3 => ((spec_l1Byte.f a0 a3.2.1 a3.2.2).bind fun a4 => (if x1 = 0 then (none) else (some (Int.tmod (wrap64 ((wrap64 ((wrap64 (a2.1 * 65536)) + (wrap64 (a3.1 * 256)))) + a4.1)) x1, a4.2.1, a4.2.2))))))
def spec_l1Below.f (k : Nat) (a3 : List Int) (a0 a2 a1 : Int) : Option (Int × Int × Int) := if a1 ≤ 0 then (some (0, a0, a2)) else (spec_l1Below.j0 k a1 a3 a0 a2)
theorem spec_l1Below.calls (k g : Nat) (a2 : List Int) (a3 a4 a1 r1 r2 r3 : Int) (w0 w : World) (hI : IsS113 w0 w g a2 a3 a4) (hB : Below w0.heap.size w0 w) (h : spec_l1Below.f k a2 a3 a4 a1 = some (r1, r2, r3)) :
  Calls Tryd.prog 104 #[.pointer (some ⟨g, 0, none⟩), .int .i64 a1] w fun e w' => e = .returned (.int .i64 r1) ∧ IsS113 w0 w' g a2 r2 r3 ∧ Below w0.heap.size w0 w' ∧ KeepBut w w' g none := by
 have a0 := zA hI
 have HK := zA (KeepBut.refl w g none)
 have HL := zA hB.size
 clear hI
 have d0 := zA hB.size
 have HB := zA hB
 clear hB
 unfold spec_l1Below.f at h
 have H := h
 clear h
 have a6 := zA H
 clear H
 go_enter Tryd.func104, Tryd.ntmps104
 go_upto_if 9 with (fail)
 go_cut [] (fun wc => ∃ (kq : Nat), Aside0 (spec_l1Below.j0 kq a1 a2 a3 a4 = some (r1, r2, r3)) ∧ Aside0 (kq ≤ k) ∧ Aside0 (IsS113 w0 wc g a2 a3 a4) ∧ Aside0 (KeepBut w wc g none) ∧ Aside0 (Below w0.heap.size w0 wc))
 case first =>
  have H := a6.out; clear a6; replace H := zI0 H
  rcases H with ⟨a5, H⟩ | ⟨a5, H⟩
  ·(first | rw [a5] | (simp only [i64_w, i32_w]; rw [a5]) | skip)
   simp only [zU] at H; obtain ⟨rfl, rfl, rfl⟩ := H
   go_wp2
   go_ret
   exact ⟨zE, by repeat (first | (with_reducible first | exact a0.out | apply IsS113.alloc | apply IsS113.drewN | apply IsS113.drew | apply IsS113.set_1 | apply IsS113.set_2) | exact a0.out), zX HB.out (IsS113.ge a0.out), zQ HK.out⟩
  (first | rw [a5] | (simp only [i64_w, i32_w]; rw [a5]) | skip)
  have H' := zA H; clear H
  go_wp2
  go_meet
  case rel => exact ⟨_, (by first | exact H' | (subst_vars; exact H')), ⟨by first | omega | exact Nat.le_refl _⟩, ⟨by repeat (first | (with_reducible first | exact a0.out | apply IsS113.alloc | apply IsS113.drewN | apply IsS113.drew | apply IsS113.set_1 | apply IsS113.set_2) | exact a0.out)⟩, ⟨zQ HK.out⟩, ⟨zX HB.out (IsS113.ge a0.out)⟩⟩
 case rest =>
  clear a6
  try clear c1
  try clear p2
  try clear c4
  try clear a5
  obtain ⟨kq, HA, d1, a0, HK, HB⟩ := hcut
  cases kq with
  | zero => exact absurd HA.out (by simp [spec_l1Below.j0])
  | succ d2 =>
   have H := HA.out; clear HA; simp only [spec_l1Below.j0] at H; replace H := zI0 H
   rcases H with ⟨b6, H⟩ | ⟨b6, H⟩
   ·replace H := Option.bind_eq_some_iff.mp H; obtain ⟨⟨b7, b8, b9⟩, a8, H⟩ := H
    try dsimp only at H
    have A6 := zA a8; clear a8; replace H := zI1 H
    rcases H with ⟨c7, H⟩ | ⟨c7, H⟩
    ·exact absurd H (by simp)
    have d3 := beq_eq_false_iff_ne.mpr c7; have d4 := bne_iff_ne.mpr c7; simp only [zU] at H; obtain ⟨rfl, rfl, rfl⟩ := H
    go_wp2_with (first | ((with_reducible refine zq 123 ?_); refine zg (some 13) Tryd.func123 #[.pointer (some ⟨g, 0, none⟩)] ?_; (with_reducible refine (spec_l1Byte.calls g a2 a3 a4 b7 b8 b9 w0 _ ?s1 ?s2 A6.out).mono ?_); (case s1 => repeat (first | (with_reducible first | exact a0.out | apply IsS113.alloc | apply IsS113.drewN | apply IsS113.drew | apply IsS113.set_1 | apply IsS113.set_2) | exact a0.out)); (case s2 => repeat (first | (with_reducible first | exact HB.out | apply below_alloc | apply pw_below_drewN | apply below_drew1 | refine below_set ?_ (IsS113.ge a0.out)) | exact HB.out)); rintro e w8 ⟨rfl, hi, hb, hk⟩; refine ⟨_, rfl, ?_⟩; replace HK := zA (KeepBut.trans (zQ HK.out) hk (.inl rfl)); replace HB := zA (hb); replace a0 := zA (hi); (try clear hb hk hi)))
    go_ret
    exact ⟨zE, by repeat (first | (with_reducible first | exact a0.out | apply IsS113.alloc | apply IsS113.drewN | apply IsS113.drew | apply IsS113.set_1 | apply IsS113.set_2) | exact a0.out), zX HB.out (IsS113.ge a0.out), zQ HK.out⟩
   replace H := Option.bind_eq_some_iff.mp H; obtain ⟨⟨c0, a9, b0⟩, b1, H⟩ := H
   try dsimp only at H
   have A9 := zA b1; clear b1; replace H := Option.bind_eq_some_iff.mp H; obtain ⟨⟨c2, b2, b3⟩, b4, H⟩ := H
   try dsimp only at H
   have c3 := zA b4; clear b4; replace H := Option.bind_eq_some_iff.mp H; obtain ⟨⟨c5, c6, c8⟩, b5, H⟩ := H
   try dsimp only at H
   have c9 := zA b5; clear b5; replace H := zI1 H
   rcases H with ⟨a7, H⟩ | ⟨a7, H⟩
   ·exact absurd H (by simp)
   have d5 := beq_eq_false_iff_ne.mpr a7; have d6 := bne_iff_ne.mpr a7; simp only [zU] at H; obtain ⟨rfl, rfl, rfl⟩ := H
   go_wp2_with (first | ((with_reducible refine zq 123 ?_); refine zg (some 17) Tryd.func123 #[.pointer (some ⟨g, 0, none⟩)] ?_; (with_reducible refine (spec_l1Byte.calls g a2 a3 a4 c0 a9 b0 w0 _ ?s1 ?s2 A9.out).mono ?_); (case s1 => repeat (first | (with_reducible first | exact a0.out | apply IsS113.alloc | apply IsS113.drewN | apply IsS113.drew | apply IsS113.set_1 | apply IsS113.set_2) | exact a0.out)); (case s2 => repeat (first | (with_reducible first | exact HB.out | apply below_alloc | apply pw_below_drewN | apply below_drew1 | refine below_set ?_ (IsS113.ge a0.out)) | exact HB.out)); rintro e d7 ⟨rfl, hi, hb, hk⟩; refine ⟨_, rfl, ?_⟩; replace HK := zA (KeepBut.trans (zQ HK.out) hk (.inl rfl)); replace HB := zA (hb); replace a0 := zA (hi); (try clear hb hk hi)) | ((with_reducible refine zq 123 ?_); refine zg (some 19) Tryd.func123 #[.pointer (some ⟨g, 0, none⟩)] ?_; (with_reducible refine (spec_l1Byte.calls g a2 a9 b0 c2 b2 b3 w0 _ ?s1 ?s2 c3.out).mono ?_); (case s1 => repeat (first | (with_reducible first | exact a0.out | apply IsS113.alloc | apply IsS113.drewN | apply IsS113.drew | apply IsS113.set_1 | apply IsS113.set_2) | exact a0.out)); (case s2 => repeat (first | (with_reducible first | exact HB.out | apply below_alloc | apply pw_below_drewN | apply below_drew1 | refine below_set ?_ (IsS113.ge a0.out)) | exact HB.out)); rintro e d8 ⟨rfl, hi, hb, hk⟩; refine ⟨_, rfl, ?_⟩; replace HK := zA (KeepBut.trans (zQ HK.out) hk (.inl rfl)); replace HB := zA (hb); replace a0 := zA (hi); (try clear hb hk hi)) | ((with_reducible refine zq 123 ?_); refine zg (some 21) Tryd.func123 #[.pointer (some ⟨g, 0, none⟩)] ?_; (with_reducible refine (spec_l1Byte.calls g a2 b2 b3 c5 c6 c8 w0 _ ?s1 ?s2 c9.out).mono ?_); (case s1 => repeat (first | (with_reducible first | exact a0.out | apply IsS113.alloc | apply IsS113.drewN | apply IsS113.drew | apply IsS113.set_1 | apply IsS113.set_2) | exact a0.out)); (case s2 => repeat (first | (with_reducible first | exact HB.out | apply below_alloc | apply pw_below_drewN | apply below_drew1 | refine below_set ?_ (IsS113.ge a0.out)) | exact HB.out)); rintro e d9 ⟨rfl, hi, hb, hk⟩; refine ⟨_, rfl, ?_⟩; replace HK := zA (KeepBut.trans (zQ HK.out) hk (.inl rfl)); replace HB := zA (hb); replace a0 := zA (hi); (try clear hb hk hi)))
   go_ret
   exact ⟨zE, by repeat (first | (with_reducible first | exact a0.out | apply IsS113.alloc | apply IsS113.drewN | apply IsS113.drew | apply IsS113.set_1 | apply IsS113.set_2) | exact a0.out), zX HB.out (IsS113.ge a0.out), zQ HK.out⟩
/-! ### spec_l1Str: function 65 -/
def spec_l1Str.f (k : Nat) (a1 : List Int) (a2 a3 : Int) (l1 : List ByteArray) : Option (ByteArray × Int × Int) := (spec_l1Below.f k a1 a2 a3 (l1.length : Int)).bind fun a0 => (if 0 ≤ a0.1 then (if a0.1 < (l1.length : Int) then (some (rdOf ByteArray.empty l1 a0.1, a0.2.1, a0.2.2)) else (none)) else (none))
theorem spec_l1Str.calls (k g : Nat) (a1 : List Int) (a3 a4 : Int) (A1 : Option Addr) (c1 : Nat) (l1 : List ByteArray) (r1 : ByteArray) (r2 r3 : Int) (w0 w : World) (hI : IsS113 w0 w g a1 a3 a4) (hB : Below w0.heap.size w0 w) (a8 : Kd.C Kd.string w A1 l1.length l1) (a9 : l1.length ≤ c1) (a5 : ∀ ad, A1 = some ad → 0 < l1.length → ad.block ≠ g) (h : spec_l1Str.f k a1 a3 a4 l1 = some (r1, r2, r3)) :
  Calls Tryd.prog 65 #[.pointer (some ⟨g, 0, none⟩), .slice A1 l1.length c1] w fun e w' => e = .returned (.string r1) ∧ IsS113 w0 w' g a1 r2 r3 ∧ Below w0.heap.size w0 w' ∧ KeepBut w w' g none := by
 have b2 := zA a8
 have b7 := zA a9
 clear a8 a9
 have a0 := zA hI
 have HK := zA (KeepBut.refl w g none)
 have HL := zA hB.size
 clear hI
 have b8 := zA hB.size
 have HB := zA hB
 clear hB
 unfold spec_l1Str.f at h
 have H := h
 clear h
 replace H := Option.bind_eq_some_iff.mp H
 obtain ⟨⟨a2, b3, b4⟩, b0, H⟩ := H
 try dsimp only at H
 have A3 := zA b0
 clear b0
 replace H := zD0 H
 obtain ⟨b9, H⟩ := H
 replace H := zD0 H
 obtain ⟨c0, H⟩ := H
 simp only [zU] at H
 obtain ⟨rfl, rfl, rfl⟩ := H
 go_enter Tryd.func65, Tryd.ntmps65
 go_wp2_with (first | ((with_reducible refine zq 104 ?_); refine zg (some 9) Tryd.func104 #[.pointer (some ⟨g, 0, none⟩), .int .i64 (l1.length : Int)] ?_; (with_reducible refine (spec_l1Below.calls k g a1 a3 a4 (l1.length : Int) a2 b3 b4 w0 _ ?s1 ?s2 A3.out).mono ?_); (case s1 => repeat (first | (with_reducible first | exact a0.out | apply IsS113.alloc | apply IsS113.drewN | apply IsS113.drew | apply IsS113.set_1 | apply IsS113.set_2) | exact a0.out)); (case s2 => repeat (first | (with_reducible first | exact HB.out | apply below_alloc | apply pw_below_drewN | apply below_drew1 | refine below_set ?_ (IsS113.ge a0.out)) | exact HB.out)); rintro e w6 ⟨rfl, hi, hb, hk⟩; refine ⟨_, rfl, ?_⟩; replace HK := zA (KeepBut.trans (zQ HK.out) hk (.inl rfl)); replace HB := zA (hb); replace a0 := zA (hi); (try clear hb hk hi); have a6 : 0 ≤ (a2 : Int) := zD; have a7 : a2 < (l1.length : Int) := zD; obtain ⟨b5, b6, b1⟩ := Kd.at_string b2.out a2 a6 a7; cases b6; replace b1 := keep_cell HK.out b1 (by first | (rw [add_block]; exact a5 _ rfl (by omega)) | exact a5 _ rfl (by omega) | exact a5 b5 rfl (by omega)); replace a6 := eq_true a6; replace a7 := eq_true a7))
 go_ret
 exact ⟨zE, by repeat (first | (with_reducible first | exact a0.out | apply IsS113.alloc | apply IsS113.drewN | apply IsS113.drew | apply IsS113.set_1 | apply IsS113.set_2) | exact a0.out), zX HB.out (IsS113.ge a0.out), zQ HK.out⟩
/-! ### spec_l1Once: function 72 -/
def spec_l1Once.f (k : Nat) (a2 : List Int) (a3 a4 a1 : Int) : Option (Bool × Int × Int) := (spec_l1Below.f k a2 a3 a4 a1).bind fun a0 => (some ((a0.1 == 0), a0.2.1, a0.2.2))
theorem spec_l1Once.calls (k g : Nat) (a2 : List Int) (a3 a4 a1 : Int) (r1 : Bool) (r2 r3 : Int) (w0 w : World) (hI : IsS113 w0 w g a2 a3 a4) (hB : Below w0.heap.size w0 w) (h : spec_l1Once.f k a2 a3 a4 a1 = some (r1, r2, r3)) :
  Calls Tryd.prog 72 #[.pointer (some ⟨g, 0, none⟩), .int .i64 a1] w fun e w' => e = .returned (.bool r1) ∧ IsS113 w0 w' g a2 r2 r3 ∧ Below w0.heap.size w0 w' ∧ KeepBut w w' g none := by
 have a0 := zA hI
 have HK := zA (KeepBut.refl w g none)
 have HL := zA hB.size
 clear hI
 have a9 := zA hB.size
 have HB := zA hB
 clear hB
 unfold spec_l1Once.f at h
 have H := h
 clear h
 replace H := Option.bind_eq_some_iff.mp H
 obtain ⟨⟨a6, a7, a8⟩, a5, H⟩ := H
 try dsimp only at H
 have A3 := zA a5
 clear a5
 simp only [zU] at H
 obtain ⟨rfl, rfl, rfl⟩ := H
 go_enter Tryd.func72, Tryd.ntmps72
 go_wp2_with (first | ((with_reducible refine zq 104 ?_); refine zg (some 7) Tryd.func104 #[.pointer (some ⟨g, 0, none⟩), .int .i64 a1] ?_; (with_reducible refine (spec_l1Below.calls k g a2 a3 a4 a1 a6 a7 a8 w0 _ ?s1 ?s2 A3.out).mono ?_); (case s1 => repeat (first | (with_reducible first | exact a0.out | apply IsS113.alloc | apply IsS113.drewN | apply IsS113.drew | apply IsS113.set_1 | apply IsS113.set_2) | exact a0.out)); (case s2 => repeat (first | (with_reducible first | exact HB.out | apply below_alloc | apply pw_below_drewN | apply below_drew1 | refine below_set ?_ (IsS113.ge a0.out)) | exact HB.out)); rintro e w4 ⟨rfl, hi, hb, hk⟩; refine ⟨_, rfl, ?_⟩; replace HK := zA (KeepBut.trans (zQ HK.out) hk (.inl rfl)); replace HB := zA (hb); replace a0 := zA (hi); (try clear hb hk hi)))
 go_ret
 exact ⟨zE, by repeat (first | (with_reducible first | exact a0.out | apply IsS113.alloc | apply IsS113.drewN | apply IsS113.drew | apply IsS113.set_1 | apply IsS113.set_2) | exact a0.out), zX HB.out (IsS113.ge a0.out), zQ HK.out⟩
/-! ### spec_l1Int: function 82 -/
def spec_l1Int.f (k : Nat) (a1 : List Int) (a2 a3 : Int) (l1 : List Int) : Option (Int × Int × Int) := (spec_l1Below.f k a1 a2 a3 (l1.length : Int)).bind fun a0 => (if 0 ≤ a0.1 then (if a0.1 < (l1.length : Int) then (some (rd l1 a0.1, a0.2.1, a0.2.2)) else (none)) else (none))
theorem spec_l1Int.calls (k g : Nat) (a1 : List Int) (a3 a4 : Int) (A1 : Option Addr) (c1 : Nat) (l1 : List Int) (r1 r2 r3 : Int) (w0 w : World) (hI : IsS113 w0 w g a1 a3 a4) (hB : Below w0.heap.size w0 w) (a8 : Kd.C (Kd.int .i64) w A1 l1.length l1) (a9 : l1.length ≤ c1) (a5 : ∀ ad, A1 = some ad → 0 < l1.length → ad.block ≠ g) (h : spec_l1Int.f k a1 a3 a4 l1 = some (r1, r2, r3)) :
  Calls Tryd.prog 82 #[.pointer (some ⟨g, 0, none⟩), .slice A1 l1.length c1] w fun e w' => e = .returned (.int .i64 r1) ∧ IsS113 w0 w' g a1 r2 r3 ∧ Below w0.heap.size w0 w' ∧ KeepBut w w' g none := by
 have b2 := zA a8
 have b7 := zA a9
 clear a8 a9
 have a0 := zA hI
 have HK := zA (KeepBut.refl w g none)
 have HL := zA hB.size
 clear hI
 have b8 := zA hB.size
 have HB := zA hB
 clear hB
 unfold spec_l1Int.f at h
 have H := h
 clear h
 replace H := Option.bind_eq_some_iff.mp H
 obtain ⟨⟨a2, b3, b4⟩, b0, H⟩ := H
 try dsimp only at H
 have A3 := zA b0
 clear b0
 replace H := zD0 H
 obtain ⟨b9, H⟩ := H
 replace H := zD0 H
 obtain ⟨c0, H⟩ := H
 simp only [zU] at H
 obtain ⟨rfl, rfl, rfl⟩ := H
 go_enter Tryd.func82, Tryd.ntmps82
 go_wp2_with (first | ((with_reducible refine zq 104 ?_); refine zg (some 9) Tryd.func104 #[.pointer (some ⟨g, 0, none⟩), .int .i64 (l1.length : Int)] ?_; (with_reducible refine (spec_l1Below.calls k g a1 a3 a4 (l1.length : Int) a2 b3 b4 w0 _ ?s1 ?s2 A3.out).mono ?_); (case s1 => repeat (first | (with_reducible first | exact a0.out | apply IsS113.alloc | apply IsS113.drewN | apply IsS113.drew | apply IsS113.set_1 | apply IsS113.set_2) | exact a0.out)); (case s2 => repeat (first | (with_reducible first | exact HB.out | apply below_alloc | apply pw_below_drewN | apply below_drew1 | refine below_set ?_ (IsS113.ge a0.out)) | exact HB.out)); rintro e w6 ⟨rfl, hi, hb, hk⟩; refine ⟨_, rfl, ?_⟩; replace HK := zA (KeepBut.trans (zQ HK.out) hk (.inl rfl)); replace HB := zA (hb); replace a0 := zA (hi); (try clear hb hk hi); have a6 : 0 ≤ (a2 : Int) := zD; have a7 : a2 < (l1.length : Int) := zD; obtain ⟨b5, b6, b1⟩ := Kd.at_int b2.out a2 a6 a7; cases b6; replace b1 := keep_cell HK.out b1 (by first | (rw [add_block]; exact a5 _ rfl (by omega)) | exact a5 _ rfl (by omega) | exact a5 b5 rfl (by omega)); replace a6 := eq_true a6; replace a7 := eq_true a7))
 go_ret
 exact ⟨zE, by repeat (first | (with_reducible first | exact a0.out | apply IsS113.alloc | apply IsS113.drewN | apply IsS113.drew | apply IsS113.set_1 | apply IsS113.set_2) | exact a0.out), zX HB.out (IsS113.ge a0.out), zQ HK.out⟩
/-! ### spec_l1Num: function 81 -/
def spec_l1Num.f (k : Nat) (a1 : List Int) (a2 a3 : Int) : Option (Int × Int × Int) := (spec_l1Int.f k a1 a2 a3 (([0, 1, 9, 10, 42, 999, 9999, 65535, 9999999, 10000000, (-1), (-9223372036854775808), 9223372036854775807] : List Int))).bind fun a0 => (some (a0.1, a0.2.1, a0.2.2))
theorem spec_l1Num.calls (k g : Nat) (a1 : List Int) (a3 a4 r1 r2 r3 : Int) (w0 w : World) (hI : IsS113 w0 w g a1 a3 a4) (hB : Below w0.heap.size w0 w) (h : spec_l1Num.f k a1 a3 a4 = some (r1, r2, r3)) :
  Calls Tryd.prog 81 #[.pointer (some ⟨g, 0, none⟩)] w fun e w' => e = .returned (.int .i64 r1) ∧ IsS113 w0 w' g a1 r2 r3 ∧ Below w0.heap.size w0 w' ∧ KeepBut w w' g none := by
 have a0 := zA hI
 have HK := zA (KeepBut.refl w g none)
 have HL := zA hB.size
 clear hI
 have b7 := zA hB.size
 have HB := zA hB
 clear hB
 unfold spec_l1Num.f at h
 have H := h
 clear h
 obtain ⟨a6, a7⟩ : ∃ y_ : List Int, y_ = (([0, 1, 9, 10, 42, 999, 9999, 65535, 9999999, 10000000, (-1), (-9223372036854775808), 9223372036854775807] : List Int)) := ⟨_, rfl⟩
 replace H : ((spec_l1Int.f k a1 a3 a4 a6).bind fun a8 => (some (a8.1, a8.2.1, a8.2.2))) = some (r1, r2, r3) := zY a7 H
 have a9 := zA a7
 clear a7
 replace H := Option.bind_eq_some_iff.mp H
 obtain ⟨⟨b1, b2, b3⟩, b0, H⟩ := H
 try dsimp only at H
 have A2 := zA b0
 clear b0
 simp only [zU] at H
 obtain ⟨rfl, rfl, rfl⟩ := H
 go_enter Tryd.func81, Tryd.ntmps81
 go_wp2_with (first | ((with_reducible refine gate_dst (N := 4) rfl ?_); refine Kd.R_lit (Kd.int .i64) _ 3 ?hg (N := 4) ?hd (xs := ([0, 1, 9, 10, 42, 999, 9999, 65535, 9999999, 10000000, (-1), (-9223372036854775808), 9223372036854775807] : List Int)) (inner := [.int .i64 0, .int .i64 1, .int .i64 9, .int .i64 10, .int .i64 42, .int .i64 999, .int .i64 9999, .int .i64 65535, .int .i64 9999999, .int .i64 10000000, .int .i64 (-1), .int .i64 (-9223372036854775808), .int .i64 9223372036854775807]) (ok := fun _ => True) ?hr ?hp (fun _ hk => hk) trivial (Below.refl _ _) (Nat.le_refl _) (by simp) ?_; (case hd => rfl); (case hg => rfl); (case hr => first | (go_simp; done) | (go_simp; rfl)); (case hp => exact (Reps.one (show Kd.M (Kd.int .i64) _ _ _ 0 [.int .i64 0] from rfl) (Reps.one (show Kd.M (Kd.int .i64) _ _ _ 1 [.int .i64 1] from rfl) (Reps.one (show Kd.M (Kd.int .i64) _ _ _ 9 [.int .i64 9] from rfl) (Reps.one (show Kd.M (Kd.int .i64) _ _ _ 10 [.int .i64 10] from rfl) (Reps.one (show Kd.M (Kd.int .i64) _ _ _ 42 [.int .i64 42] from rfl) (Reps.one (show Kd.M (Kd.int .i64) _ _ _ 999 [.int .i64 999] from rfl) (Reps.one (show Kd.M (Kd.int .i64) _ _ _ 9999 [.int .i64 9999] from rfl) (Reps.one (show Kd.M (Kd.int .i64) _ _ _ 65535 [.int .i64 65535] from rfl) (Reps.one (show Kd.M (Kd.int .i64) _ _ _ 9999999 [.int .i64 9999999] from rfl) (Reps.one (show Kd.M (Kd.int .i64) _ _ _ 10000000 [.int .i64 10000000] from rfl) (Reps.one (show Kd.M (Kd.int .i64) _ _ _ (-1) [.int .i64 (-1)] from rfl) (Reps.one (show Kd.M (Kd.int .i64) _ _ _ (-9223372036854775808) [.int .i64 (-9223372036854775808)] from rfl) (Reps.one (show Kd.M (Kd.int .i64) _ _ _ 9223372036854775807 [.int .i64 9223372036854775807] from rfl) (Reps.none _ _))))))))))))))); intro b8 w3 a5 hb hg_ hnew_; clear hg_ hnew_; (first | rw [← a9.out] at a5 | (simp only [Int.reduceToNat] at a5; rw [← a9.out] at a5)); have a2 := zA (Kd.R_lower a5 (keep_size (w := w) (g := g) (row := none) (zQ HK.out))); replace HK := zA (KeepBut.trans (zQ HK.out) (KeepBut.of_below hb g none) (.inl rfl)); replace HB := zA (below_step (zX HB.out (IsS113.ge a0.out)) hb); replace a0 := zA (IsS113.below (by repeat (first | (with_reducible first | exact a0.out | apply IsS113.alloc | apply IsS113.drewN | apply IsS113.drew | apply IsS113.set_1 | apply IsS113.set_2) | exact a0.out)) hb); clear hb a5; obtain ⟨b4, b5, b6⟩ := Kd.R_slice a2.out; subst b6) | ((with_reducible refine zq 82 ?_); refine zg (some 5) Tryd.func82 #[.pointer (some ⟨g, 0, none⟩), .slice b4 a6.length b5] ?_; (with_reducible refine (spec_l1Int.calls k g a1 a3 a4 _ _ a6 b1 b2 b3 w0 _ ?s1 ?s2 ?s3 ?s4 ?s5 A2.out).mono ?_); (case s1 => repeat (first | (with_reducible first | exact a0.out | apply IsS113.alloc | apply IsS113.drewN | apply IsS113.drew | apply IsS113.set_1 | apply IsS113.set_2) | exact a0.out)); (case s2 => repeat (first | (with_reducible first | exact HB.out | apply below_alloc | apply pw_below_drewN | apply below_drew1 | refine below_set ?_ (IsS113.ge a0.out)) | exact HB.out)); (case s3 => repeat (first | exact (Kd.R_reads' a2.out).2.2 | (with_reducible refine Kd.C_alloc ?_ _) | (with_reducible refine Kd.C_drewN ?_ _) | (with_reducible refine Kd.C_drew ?_))); (case s4 => exact (Kd.R_reads' a2.out).2.1); (case s5 => exact far_slice (IsS113.own_ne a0.out a2.out (by decide))); rintro e w6 ⟨rfl, hi, hb, hk⟩; refine ⟨_, rfl, ?_⟩; replace a2 := zA (Kd.R_mono (Kd.R_keep (IsS113.apart (show IsS113 w0 _ g a1 a3 a4 from by repeat (first | (with_reducible first | exact a0.out | apply IsS113.alloc | apply IsS113.drewN | apply IsS113.drew | apply IsS113.set_1 | apply IsS113.set_2) | exact a0.out)) (zR a2.out) (by decide)) hk (fun _ h => h.2)) (fun _ h => h.1)); replace HK := zA (KeepBut.trans (zQ HK.out) hk (.inl rfl)); replace HB := zA (hb); replace a0 := zA (hi); (try clear hb hk hi)))
 go_ret
 exact ⟨zE, by repeat (first | (with_reducible first | exact a0.out | apply IsS113.alloc | apply IsS113.drewN | apply IsS113.drew | apply IsS113.set_1 | apply IsS113.set_2) | exact a0.out), zX HB.out (IsS113.ge a0.out), zQ HK.out⟩
/-! ### spec_DrawParseNum: function 40 -/
def spec_DrawParseNum.f (k : Nat) (l0 : List Int) : Option (ByteArray × Int) := (spec_l1New.f k l0).bind fun a0 => ((spec_l1Num.f k a0.1 a0.2.1 a0.2.2).bind fun a2 => ((spec_NumText.f k a2.1).bind fun a4 => ((spec_l1Once.f k a0.1 a2.2.1 a2.2.2 3).bind fun a1 => (if a1.1 = true then ((spec_l1Str.f k a0.1 a1.2.1 a1.2.2 (([(⟨#[]⟩ : ByteArray), (⟨#[48, 48]⟩ : ByteArray), (⟨#[48, 49]⟩ : ByteArray), (⟨#[120]⟩ : ByteArray), (⟨#[49, 120]⟩ : ByteArray), (⟨#[45, 49]⟩ : ByteArray), (⟨#[49, 50, 51, 52, 53, 54, 55, 56]⟩ : ByteArray)] : List ByteArray))).bind fun a3 => ((spec_l1Int.f k a0.1 a3.2.1 a3.2.2 (([100, 9999999, 0, (-1)] : List Int))).bind fun a5 => (some (a3.1, a5.1)))) else ((spec_l1Int.f k a0.1 a1.2.1 a1.2.2 (([100, 9999999, 0, (-1)] : List Int))).bind fun a6 => (some (a4, a6.1)))))))
theorem spec_DrawParseNum.calls (k : Nat) (A0 : Option Addr) (c0 : Nat) (l0 : List Int) (r1 : ByteArray) (r2 : Int) (w : World) (c9 : Kd.C (Kd.int .u8) w A0 l0.length l0) (d0 : l0.length ≤ c0) (h : spec_DrawParseNum.f k l0 = some (r1, r2)) :
  Calls Tryd.prog 40 #[.slice A0 l0.length c0] w fun e w' => e = .returned (.tuple #[.string r1, .int .i64 r2]) ∧ Below w.heap.size w w' := by
 have d1 := zA c9
 have d2 := zA d0
 clear c9 d0
 have HB := zA (Below.refl w.heap.size w)
 unfold spec_DrawParseNum.f at h
 have H := h
 clear h
 replace H := Option.bind_eq_some_iff.mp H
 obtain ⟨⟨a2, b4, b5⟩, d3, H⟩ := H
 try dsimp only at H
 have A2 := zA d3
 clear d3
 replace H := Option.bind_eq_some_iff.mp H
 obtain ⟨⟨a6, b6, b7⟩, d4, H⟩ := H
 try dsimp only at H
 have A3 := zA d4
 clear d4
 replace H := Option.bind_eq_some_iff.mp H
 obtain ⟨b8, d5, H⟩ := H
 try dsimp only at H
 have A4 := zA d5
 clear d5
 replace H := Option.bind_eq_some_iff.mp H
 obtain ⟨⟨g1, a4, a5⟩, d6, H⟩ := H
 try dsimp only at H
 have A5 := zA d6
 clear d6
 replace H := zB0 H
 rcases H with ⟨rfl, H⟩ | ⟨rfl, H⟩
 ·obtain ⟨b9, c1⟩ : ∃ y_ : List ByteArray, y_ = (([(⟨#[]⟩ : ByteArray), (⟨#[48, 48]⟩ : ByteArray), (⟨#[48, 49]⟩ : ByteArray), (⟨#[120]⟩ : ByteArray), (⟨#[49, 120]⟩ : ByteArray), (⟨#[45, 49]⟩ : ByteArray), (⟨#[49, 50, 51, 52, 53, 54, 55, 56]⟩ : ByteArray)] : List ByteArray)) := ⟨_, rfl⟩; replace H : ((spec_l1Str.f k a2 a4 a5 b9).bind fun c2 => ((spec_l1Int.f k a2 c2.2.1 c2.2.2 (([100, 9999999, 0, (-1)] : List Int))).bind fun c3 => (some (c2.1, c3.1)))) = some (r1, r2) := zY c1 H; have d7 := zA c1; clear c1; replace H := Option.bind_eq_some_iff.mp H; obtain ⟨⟨d8, a9, b0⟩, d9, H⟩ := H
  try dsimp only at H
  have A7 := zA d9; clear d9; obtain ⟨c4, c5⟩ : ∃ y_ : List Int, y_ = (([100, 9999999, 0, (-1)] : List Int)) := ⟨_, rfl⟩; replace H : ((spec_l1Int.f k a2 a9 b0 c4).bind fun c3 => (some (d8, c3.1))) = some (r1, r2) := zY c5 H; have e0 := zA c5; clear c5; replace H := Option.bind_eq_some_iff.mp H; obtain ⟨⟨e4, e5, e6⟩, e1, H⟩ := H
  try dsimp only at H
  have A8 := zA e1; clear e1; simp only [zU] at H; obtain ⟨rfl, rfl⟩ := H
  go_enter Tryd.func40, Tryd.ntmps40
  go_wp2_with (first | ((with_reducible refine zq 64 ?_); refine zg (some 7) Tryd.func64 #[.slice A0 l0.length c0] ?_; (with_reducible refine (spec_l1New.calls k _ _ l0 a2 b4 b5 w _ ?s1 ?s2 ?s3 A2.out).mono ?_); (case s1 => repeat (first | (with_reducible first | exact HB.out | apply below_alloc | apply pw_below_drewN | apply below_drew1) | exact HB.out)); (case s2 => exact d1.out); (case s3 => exact d2.out); rintro e w9 ⟨a1, rfl, hi, hb, c6⟩; refine ⟨_, rfl, ?_⟩; replace HB := zA (hb); have a0 := zA (hi); (try clear hb c6 hi)) | ((with_reducible refine zq 81 ?_); refine zg (some 9) Tryd.func81 #[.pointer (some ⟨a1, 0, none⟩)] ?_; (with_reducible refine (spec_l1Num.calls k a1 a2 b4 b5 a6 b6 b7 w _ ?s1 ?s2 A3.out).mono ?_); (case s1 => repeat (first | (with_reducible first | exact a0.out | apply IsS113.alloc | apply IsS113.drewN | apply IsS113.drew | apply IsS113.set_1 | apply IsS113.set_2) | exact a0.out)); (case s2 => repeat (first | (with_reducible first | exact HB.out | apply below_alloc | apply pw_below_drewN | apply below_drew1 | refine below_set ?_ (IsS113.ge a0.out)) | exact HB.out)); rintro e g2 ⟨rfl, hi, hb, hk⟩; refine ⟨_, rfl, ?_⟩; replace HB := zA (hb); replace a0 := zA (hi); (try clear hb hk hi)) | ((with_reducible refine zq 51 ?_); refine zg (some 10) Tryd.func51 #[.int .i64 a6] ?_; (with_reducible refine (spec_NumText.calls k a6 b8 _ A4.out).mono ?_); rintro e g3 ⟨rfl, hb⟩; refine ⟨_, rfl, ?_⟩; replace HB := zA (below_step (zX HB.out (IsS113.ge a0.out)) hb); replace a0 := zA (IsS113.below (by repeat (first | (with_reducible first | exact a0.out | apply IsS113.alloc | apply IsS113.drewN | apply IsS113.drew | apply IsS113.set_1 | apply IsS113.set_2) | exact a0.out)) hb); (try clear hb)) | ((with_reducible refine zq 72 ?_); refine zg (some 12) Tryd.func72 #[.pointer (some ⟨a1, 0, none⟩), .int .i64 3] ?_; (with_reducible refine (spec_l1Once.calls k a1 a2 b6 b7 3 true a4 a5 w _ ?s1 ?s2 A5.out).mono ?_); (case s1 => repeat (first | (with_reducible first | exact a0.out | apply IsS113.alloc | apply IsS113.drewN | apply IsS113.drew | apply IsS113.set_1 | apply IsS113.set_2) | exact a0.out)); (case s2 => repeat (first | (with_reducible first | exact HB.out | apply below_alloc | apply pw_below_drewN | apply below_drew1 | refine below_set ?_ (IsS113.ge a0.out)) | exact HB.out)); rintro e g4 ⟨rfl, hi, hb, hk⟩; refine ⟨_, rfl, ?_⟩; replace HB := zA (hb); replace a0 := zA (hi); (try clear hb hk hi)) | ((with_reducible refine gate_dst (N := 14) rfl ?_); refine Kd.R_lit Kd.string _ 9 ?hg (N := 14) ?hd (xs := ([(⟨#[]⟩ : ByteArray), (⟨#[48, 48]⟩ : ByteArray), (⟨#[48, 49]⟩ : ByteArray), (⟨#[120]⟩ : ByteArray), (⟨#[49, 120]⟩ : ByteArray), (⟨#[45, 49]⟩ : ByteArray), (⟨#[49, 50, 51, 52, 53, 54, 55, 56]⟩ : ByteArray)] : List ByteArray)) (inner := [.string (⟨#[]⟩ : ByteArray), .string (⟨#[48, 48]⟩ : ByteArray), .string (⟨#[48, 49]⟩ : ByteArray), .string (⟨#[120]⟩ : ByteArray), .string (⟨#[49, 120]⟩ : ByteArray), .string (⟨#[45, 49]⟩ : ByteArray), .string (⟨#[49, 50, 51, 52, 53, 54, 55, 56]⟩ : ByteArray)]) (ok := fun _ => True) ?hr ?hp (fun _ hk => hk) trivial (Below.refl _ _) (Nat.le_refl _) (by simp) ?_; (case hd => rfl); (case hg => rfl); (case hr => first | (go_simp; done) | (go_simp; rfl)); (case hp => exact (Reps.one (show Kd.M Kd.string _ _ _ (⟨#[]⟩ : ByteArray) [.string (⟨#[]⟩ : ByteArray)] from rfl) (Reps.one (show Kd.M Kd.string _ _ _ (⟨#[48, 48]⟩ : ByteArray) [.string (⟨#[48, 48]⟩ : ByteArray)] from rfl) (Reps.one (show Kd.M Kd.string _ _ _ (⟨#[48, 49]⟩ : ByteArray) [.string (⟨#[48, 49]⟩ : ByteArray)] from rfl) (Reps.one (show Kd.M Kd.string _ _ _ (⟨#[120]⟩ : ByteArray) [.string (⟨#[120]⟩ : ByteArray)] from rfl) (Reps.one (show Kd.M Kd.string _ _ _ (⟨#[49, 120]⟩ : ByteArray) [.string (⟨#[49, 120]⟩ : ByteArray)] from rfl) (Reps.one (show Kd.M Kd.string _ _ _ (⟨#[45, 49]⟩ : ByteArray) [.string (⟨#[45, 49]⟩ : ByteArray)] from rfl) (Reps.one (show Kd.M Kd.string _ _ _ (⟨#[49, 50, 51, 52, 53, 54, 55, 56]⟩ : ByteArray) [.string (⟨#[49, 50, 51, 52, 53, 54, 55, 56]⟩ : ByteArray)] from rfl) (Reps.none _ _))))))))); intro g5 g6 b1 hb hg_ hnew_; clear hg_ hnew_; (first | rw [← d7.out] at b1 | (simp only [Int.reduceToNat] at b1; rw [← d7.out] at b1)); have a3 := zA (Kd.R_lower b1 (below_size (zX HB.out (IsS113.ge a0.out)))); replace HB := zA (below_step (zX HB.out (IsS113.ge a0.out)) hb); replace a0 := zA (IsS113.below (by repeat (first | (with_reducible first | exact a0.out | apply IsS113.alloc | apply IsS113.drewN | apply IsS113.drew | apply IsS113.set_1 | apply IsS113.set_2) | exact a0.out)) hb); clear hb b1; obtain ⟨e7, e8, e9⟩ := Kd.R_slice a3.out; subst e9) | ((with_reducible refine zq 65 ?_); refine zg (some 15) Tryd.func65 #[.pointer (some ⟨a1, 0, none⟩), .slice e7 b9.length e8] ?_; (with_reducible refine (spec_l1Str.calls k a1 a2 a4 a5 _ _ b9 d8 a9 b0 w _ ?s1 ?s2 ?s3 ?s4 ?s5 A7.out).mono ?_); (case s1 => repeat (first | (with_reducible first | exact a0.out | apply IsS113.alloc | apply IsS113.drewN | apply IsS113.drew | apply IsS113.set_1 | apply IsS113.set_2) | exact a0.out)); (case s2 => repeat (first | (with_reducible first | exact HB.out | apply below_alloc | apply pw_below_drewN | apply below_drew1 | refine below_set ?_ (IsS113.ge a0.out)) | exact HB.out)); (case s3 => repeat (first | exact (Kd.R_reads' a3.out).2.2 | (with_reducible refine Kd.C_alloc ?_ _) | (with_reducible refine Kd.C_drewN ?_ _) | (with_reducible refine Kd.C_drew ?_))); (case s4 => exact (Kd.R_reads' a3.out).2.1); (case s5 => exact far_slice (IsS113.own_ne a0.out a3.out (by decide))); rintro e g7 ⟨rfl, hi, hb, hk⟩; refine ⟨_, rfl, ?_⟩; replace a3 := zA (Kd.R_mono (Kd.R_keep (IsS113.apart (show IsS113 w _ a1 a2 a4 a5 from by repeat (first | (with_reducible first | exact a0.out | apply IsS113.alloc | apply IsS113.drewN | apply IsS113.drew | apply IsS113.set_1 | apply IsS113.set_2) | exact a0.out)) (zR a3.out) (by decide)) hk (fun _ h => h.2)) (fun _ h => h.1)); replace HB := zA (hb); replace a0 := zA (hi); (try clear hb hk hi)) | ((with_reducible refine gate_dst (N := 18) rfl ?_); refine Kd.R_lit (Kd.int .i64) _ 3 ?hg (N := 18) ?hd (xs := ([100, 9999999, 0, (-1)] : List Int)) (inner := [.int .i64 100, .int .i64 9999999, .int .i64 0, .int .i64 (-1)]) (ok := fun _ => True) ?hr ?hp (fun _ hk => hk) trivial (Below.refl _ _) (Nat.le_refl _) (by simp) ?_; (case hd => rfl); (case hg => rfl); (case hr => first | (go_simp; done) | (go_simp; rfl)); (case hp => exact (Reps.one (show Kd.M (Kd.int .i64) _ _ _ 100 [.int .i64 100] from rfl) (Reps.one (show Kd.M (Kd.int .i64) _ _ _ 9999999 [.int .i64 9999999] from rfl) (Reps.one (show Kd.M (Kd.int .i64) _ _ _ 0 [.int .i64 0] from rfl) (Reps.one (show Kd.M (Kd.int .i64) _ _ _ (-1) [.int .i64 (-1)] from rfl) (Reps.none _ _)))))); intro g8 g9 b2 hb hg_ hnew_; clear hg_ hnew_; (first | rw [← e0.out] at b2 | (simp only [Int.reduceToNat] at b2; rw [← e0.out] at b2)); replace a3 := zr a3 hb; have a7 := zA (Kd.R_lower b2 (below_size (zX HB.out (IsS113.ge a0.out)))); replace HB := zA (below_step (zX HB.out (IsS113.ge a0.out)) hb); replace a0 := zA (IsS113.below (by repeat (first | (with_reducible first | exact a0.out | apply IsS113.alloc | apply IsS113.drewN | apply IsS113.drew | apply IsS113.set_1 | apply IsS113.set_2) | exact a0.out)) hb); clear hb b2; obtain ⟨f0, f1, f2⟩ := Kd.R_slice a7.out; subst f2) | ((with_reducible refine zq 82 ?_); refine zg (some 19) Tryd.func82 #[.pointer (some ⟨a1, 0, none⟩), .slice f0 c4.length f1] ?_; (with_reducible refine (spec_l1Int.calls k a1 a2 a9 b0 _ _ c4 e4 e5 e6 w _ ?s1 ?s2 ?s3 ?s4 ?s5 A8.out).mono ?_); (case s1 => repeat (first | (with_reducible first | exact a0.out | apply IsS113.alloc | apply IsS113.drewN | apply IsS113.drew | apply IsS113.set_1 | apply IsS113.set_2) | exact a0.out)); (case s2 => repeat (first | (with_reducible first | exact HB.out | apply below_alloc | apply pw_below_drewN | apply below_drew1 | refine below_set ?_ (IsS113.ge a0.out)) | exact HB.out)); (case s3 => repeat (first | exact (Kd.R_reads' a7.out).2.2 | (with_reducible refine Kd.C_alloc ?_ _) | (with_reducible refine Kd.C_drewN ?_ _) | (with_reducible refine Kd.C_drew ?_))); (case s4 => exact (Kd.R_reads' a7.out).2.1); (case s5 => exact far_slice (IsS113.own_ne a0.out a7.out (by decide))); rintro e h0 ⟨rfl, hi, hb, hk⟩; refine ⟨_, rfl, ?_⟩; replace a3 := zA (Kd.R_mono (Kd.R_keep (IsS113.apart (show IsS113 w _ a1 a2 a9 b0 from by repeat (first | (with_reducible first | exact a0.out | apply IsS113.alloc | apply IsS113.drewN | apply IsS113.drew | apply IsS113.set_1 | apply IsS113.set_2) | exact a0.out)) (zR a3.out) (by decide)) hk (fun _ h => h.2)) (fun _ h => h.1)); replace a7 := zA (Kd.R_mono (Kd.R_keep (IsS113.apart (show IsS113 w _ a1 a2 a9 b0 from by repeat (first | (with_reducible first | exact a0.out | apply IsS113.alloc | apply IsS113.drewN | apply IsS113.drew | apply IsS113.set_1 | apply IsS113.set_2) | exact a0.out)) (zR a7.out) (by decide)) hk (fun _ h => h.2)) (fun _ h => h.1)); replace HB := zA (hb); replace a0 := zA (hi); (try clear hb hk hi)))
  go_ret2
  exact ⟨zE, zX HB.out (IsS113.ge a0.out)⟩
 obtain ⟨c7, c8⟩ : ∃ y_ : List Int, y_ = (([100, 9999999, 0, (-1)] : List Int)) := ⟨_, rfl⟩
 replace H : ((spec_l1Int.f k a2 a4 a5 c7).bind fun f3 => (some (b8, f3.1))) = some (r1, r2) := zY c8 H
 have e2 := zA c8
 clear c8
 replace H := Option.bind_eq_some_iff.mp H
 obtain ⟨⟨f4, f5, f6⟩, e3, H⟩ := H
 try dsimp only at H
 have f7 := zA e3
 clear e3
 simp only [zU] at H
 obtain ⟨rfl, rfl⟩ := H
 go_enter Tryd.func40, Tryd.ntmps40
 go_wp2_with (first | ((with_reducible refine zq 64 ?_); refine zg (some 7) Tryd.func64 #[.slice A0 l0.length c0] ?_; (with_reducible refine (spec_l1New.calls k _ _ l0 a2 b4 b5 w _ ?s1 ?s2 ?s3 A2.out).mono ?_); (case s1 => repeat (first | (with_reducible first | exact HB.out | apply below_alloc | apply pw_below_drewN | apply below_drew1) | exact HB.out)); (case s2 => exact d1.out); (case s3 => exact d2.out); rintro e h1 ⟨a1, rfl, hi, hb, c6⟩; refine ⟨_, rfl, ?_⟩; replace HB := zA (hb); have a0 := zA (hi); (try clear hb c6 hi)) | ((with_reducible refine zq 81 ?_); refine zg (some 9) Tryd.func81 #[.pointer (some ⟨a1, 0, none⟩)] ?_; (with_reducible refine (spec_l1Num.calls k a1 a2 b4 b5 a6 b6 b7 w _ ?s1 ?s2 A3.out).mono ?_); (case s1 => repeat (first | (with_reducible first | exact a0.out | apply IsS113.alloc | apply IsS113.drewN | apply IsS113.drew | apply IsS113.set_1 | apply IsS113.set_2) | exact a0.out)); (case s2 => repeat (first | (with_reducible first | exact HB.out | apply below_alloc | apply pw_below_drewN | apply below_drew1 | refine below_set ?_ (IsS113.ge a0.out)) | exact HB.out)); rintro e h2 ⟨rfl, hi, hb, hk⟩; refine ⟨_, rfl, ?_⟩; replace HB := zA (hb); replace a0 := zA (hi); (try clear hb hk hi)) | ((with_reducible refine zq 51 ?_); refine zg (some 10) Tryd.func51 #[.int .i64 a6] ?_; (with_reducible refine (spec_NumText.calls k a6 b8 _ A4.out).mono ?_); rintro e h3 ⟨rfl, hb⟩; refine ⟨_, rfl, ?_⟩; replace HB := zA (below_step (zX HB.out (IsS113.ge a0.out)) hb); replace a0 := zA (IsS113.below (by repeat (first | (with_reducible first | exact a0.out | apply IsS113.alloc | apply IsS113.drewN | apply IsS113.drew | apply IsS113.set_1 | apply IsS113.set_2) | exact a0.out)) hb); (try clear hb)) | ((with_reducible refine zq 72 ?_); refine zg (some 12) Tryd.func72 #[.pointer (some ⟨a1, 0, none⟩), .int .i64 3] ?_; (with_reducible refine (spec_l1Once.calls k a1 a2 b6 b7 3 false a4 a5 w _ ?s1 ?s2 A5.out).mono ?_); (case s1 => repeat (first | (with_reducible first | exact a0.out | apply IsS113.alloc | apply IsS113.drewN | apply IsS113.drew | apply IsS113.set_1 | apply IsS113.set_2) | exact a0.out)); (case s2 => repeat (first | (with_reducible first | exact HB.out | apply below_alloc | apply pw_below_drewN | apply below_drew1 | refine below_set ?_ (IsS113.ge a0.out)) | exact HB.out)); rintro e h4 ⟨rfl, hi, hb, hk⟩; refine ⟨_, rfl, ?_⟩; replace HB := zA (hb); replace a0 := zA (hi); (try clear hb hk hi)) | ((with_reducible refine gate_dst (N := 18) rfl ?_); refine Kd.R_lit (Kd.int .i64) _ 3 ?hg (N := 18) ?hd (xs := ([100, 9999999, 0, (-1)] : List Int)) (inner := [.int .i64 100, .int .i64 9999999, .int .i64 0, .int .i64 (-1)]) (ok := fun _ => True) ?hr ?hp (fun _ hk => hk) trivial (Below.refl _ _) (Nat.le_refl _) (by simp) ?_; (case hd => rfl); (case hg => rfl); (case hr => first | (go_simp; done) | (go_simp; rfl)); (case hp => exact (Reps.one (show Kd.M (Kd.int .i64) _ _ _ 100 [.int .i64 100] from rfl) (Reps.one (show Kd.M (Kd.int .i64) _ _ _ 9999999 [.int .i64 9999999] from rfl) (Reps.one (show Kd.M (Kd.int .i64) _ _ _ 0 [.int .i64 0] from rfl) (Reps.one (show Kd.M (Kd.int .i64) _ _ _ (-1) [.int .i64 (-1)] from rfl) (Reps.none _ _)))))); intro h5 h6 b3 hb hg_ hnew_; clear hg_ hnew_; (first | rw [← e2.out] at b3 | (simp only [Int.reduceToNat] at b3; rw [← e2.out] at b3)); have a8 := zA (Kd.R_lower b3 (below_size (zX HB.out (IsS113.ge a0.out)))); replace HB := zA (below_step (zX HB.out (IsS113.ge a0.out)) hb); replace a0 := zA (IsS113.below (by repeat (first | (with_reducible first | exact a0.out | apply IsS113.alloc | apply IsS113.drewN | apply IsS113.drew | apply IsS113.set_1 | apply IsS113.set_2) | exact a0.out)) hb); clear hb b3; obtain ⟨f8, f9, g0⟩ := Kd.R_slice a8.out; subst g0) | ((with_reducible refine zq 82 ?_); refine zg (some 19) Tryd.func82 #[.pointer (some ⟨a1, 0, none⟩), .slice f8 c7.length f9] ?_; (with_reducible refine (spec_l1Int.calls k a1 a2 a4 a5 _ _ c7 f4 f5 f6 w _ ?s1 ?s2 ?s3 ?s4 ?s5 f7.out).mono ?_); (case s1 => repeat (first | (with_reducible first | exact a0.out | apply IsS113.alloc | apply IsS113.drewN | apply IsS113.drew | apply IsS113.set_1 | apply IsS113.set_2) | exact a0.out)); (case s2 => repeat (first | (with_reducible first | exact HB.out | apply below_alloc | apply pw_below_drewN | apply below_drew1 | refine below_set ?_ (IsS113.ge a0.out)) | exact HB.out)); (case s3 => repeat (first | exact (Kd.R_reads' a8.out).2.2 | (with_reducible refine Kd.C_alloc ?_ _) | (with_reducible refine Kd.C_drewN ?_ _) | (with_reducible refine Kd.C_drew ?_))); (case s4 => exact (Kd.R_reads' a8.out).2.1); (case s5 => exact far_slice (IsS113.own_ne a0.out a8.out (by decide))); rintro e h7 ⟨rfl, hi, hb, hk⟩; refine ⟨_, rfl, ?_⟩; replace a8 := zA (Kd.R_mono (Kd.R_keep (IsS113.apart (show IsS113 w _ a1 a2 a4 a5 from by repeat (first | (with_reducible first | exact a0.out | apply IsS113.alloc | apply IsS113.drewN | apply IsS113.drew | apply IsS113.set_1 | apply IsS113.set_2) | exact a0.out)) (zR a8.out) (by decide)) hk (fun _ h => h.2)) (fun _ h => h.1)); replace HB := zA (hb); replace a0 := zA (hi); (try clear hb hk hi)))
 go_ret2
 exact ⟨zE, zX HB.out (IsS113.ge a0.out)⟩
/-! ### spec_l1In: function 84 -/
def spec_l1In.f (a0 a1 a2 : Int) : Option (Bool) := if a0 ≥ a1 then (some (decide (a0 ≤ a2))) else (some false)
theorem spec_l1In.calls (a0 a1 a2 : Int) (r : Bool) (w : World) (h : spec_l1In.f a0 a1 a2 = some r) :
  Calls Tryd.prog 84 #[.int .i64 a0, .int .i64 a1, .int .i64 a2] w fun e w' => e = .returned (.bool r) ∧ Drawn0 w w' := by
 unfold spec_l1In.f at h
 have H := h
 clear h
 replace H := zI1 H
 rcases H with ⟨c4, H⟩ | ⟨c4, H⟩
 ·have a3 : decide (a1 ≤ a0) = true := decide_eq_true c4; clear c4; obtain rfl := zm H
  go_enter Tryd.func84, Tryd.ntmps84
  go_wp2
  go_ret
  exact ⟨by first | rfl | (simp; done) | (simp [*]; done) | (simp; rw [Bool.eq_iff_iff]; simp; done), by repeat (first | exact Drawn0.refl _ | apply Drawn0.step)⟩
 have a3 : decide (a1 ≤ a0) = false := decide_eq_false c4
 clear c4
 obtain rfl := zm H
 go_enter Tryd.func84, Tryd.ntmps84
 go_wp2
 go_ret
 exact ⟨by first | rfl | (simp; done) | (simp [*]; done) | (simp; rw [Bool.eq_iff_iff]; simp; done), by repeat (first | exact Drawn0.refl _ | apply Drawn0.step)⟩
/-! ### spec_l1Digit: function 83 -/
def spec_l1Digit.f (a0 : Int) : Option (Bool) := (spec_l1In.f (wrap64 (a0)) 48 57).bind fun a1 => (some a1)
theorem spec_l1Digit.calls (a0 : Int) (r : Bool) (w : World) (h : spec_l1Digit.f a0 = some r) :
  Calls Tryd.prog 83 #[.int .u8 a0] w fun e w' => e = .returned (.bool r) ∧ Drawn0 w w' := by
 unfold spec_l1Digit.f at h
 have H := h
 clear h
 replace H := Option.bind_eq_some_iff.mp H
 obtain ⟨a2, a1, H⟩ := H
 try dsimp only at H
 have A2 := zA a1
 clear a1
 obtain rfl := zm H
 go_enter Tryd.func83, Tryd.ntmps83
 go_wp2_with (first | ((with_reducible refine zq 84 ?_); refine zg (some 5) Tryd.func84 #[.int .i64 (wrap64 (a0)), .int .i64 48, .int .i64 57] ?_; (with_reducible refine (spec_l1In.calls (wrap64 (a0)) 48 57 a2 _ A2.out).mono ?_); rintro e w' ⟨rfl, ⟨nd, rfl⟩⟩; refine ⟨_, rfl, ?_⟩))
 go_ret
 exact ⟨by first | rfl | (simp; done) | (simp [*]; done) | (simp; rw [Bool.eq_iff_iff]; simp; done), by repeat (first | exact Drawn0.refl _ | apply Drawn0.step)⟩
/-! ### spec_ParseNum: function 41 -/
mutual
def spec_ParseNum.l0 : Nat → ByteArray → Int → Int → Int → Option (Int × Bool)
 | 0, _, _, _, _ => none
 | k + 1, x0, x1, x6, x7 => if x7 < (x0.size : Int) then (spec_ParseNum.j1 k x0 x1 x6 x7 (decide (x7 < 8))) else (spec_ParseNum.j1 k x0 x1 x6 x7 false)
def spec_ParseNum.j1 : Nat → ByteArray → Int → Int → Int → Bool → Option (Int × Bool)
 | 0, _, _, _, _, _ => none
 | k + 1, x0, x1, x6, x7, a0 => if a0 = true then (if 0 ≤ x7 then (if x7 < (x0.size : Int) then ((spec_l1Digit.f (bt x0 x7)).bind fun a1 => (if a1 = true then (spec_ParseNum.l0 k x0 x1 (wrap64 ((wrap64 (x6 * 10)) + (((bt x0 x7) - 48) % 256))) (wrap64 (x7 + 1))) else (some (0, false)))) else (none)) else (none)) else ((spec_l1In.f (x0.size : Int) 1 7).bind fun a2 => (if a2 = true then (if (x0.size : Int) > 1 then (if 0 < (x0.size : Int) then (if (bt x0 0) = 48 then (some (0, false)) else (if x6 > x1 then (some (0, false)) else (some (x6, true)))) else (none)) else (if x6 > x1 then (some (0, false)) else (some (x6, true)))) else (some (0, false))))
end
def spec_ParseNum.f (k : Nat) (a0 : ByteArray) (a1 : Int) : Option (Int × Bool) := spec_ParseNum.l0 k a0 a1 0 0
theorem spec_ParseNum.calls (k : Nat) (a0 : ByteArray) (a1 r1 : Int) (r2 : Bool) (w : World) (h : spec_ParseNum.f k a0 a1 = some (r1, r2)) :
  Calls Tryd.prog 41 #[.string a0, .int .i64 a1] w fun e w' => e = .returned (.tuple #[.int .i64 r1, .bool r2]) ∧ Drawn0 w w' := by
 unfold spec_ParseNum.f at h
 have H := h
 clear h
 have H' := zA H
 clear H
 go_enter Tryd.func41, Tryd.ntmps41
 go_wp2
 go_loopg [6, 7] k (fun kq v6 v7 w' => ∃ (a3 : Int) (a2 : Int), v6 = .int .i64 a3 ∧ v7 = .int .i64 a2 ∧ Aside0 (spec_ParseNum.l0 kq a0 a1 a3 a2 = some (r1, r2)) ∧ Aside0 (kq ≤ k) ∧ Drawn0 w w')
 case atStart => exact ⟨(0), (0), zS, zS, H', ⟨Nat.le_refl _⟩, by repeat (first | exact Drawn0.refl _ | apply Drawn0.step)⟩
 case round =>
  clear H'
  try clear p2
  obtain ⟨a3, a2, rfl, rfl, HA, b2, ⟨m1, rfl⟩⟩ := hrel
  cases gk with
  | zero => exact absurd HA.out (by simp [spec_ParseNum.l0])
  | succ k1 =>
   have H := HA.out; clear HA; simp only [spec_ParseNum.l0] at H; have b3 := zA H; clear H
   go_upto_region 3 with (fail)
   go_cut [15] (fun c3 wc => ∃ (kq : Nat) (b4 : Bool), c3 = .bool b4 ∧ Aside0 (spec_ParseNum.j1 kq a0 a1 a3 a2 b4 = some (r1, r2)) ∧ Aside0 (kq ≤ k1) ∧ Drawn0 w wc)
   case first =>
    have H := b3.out; clear b3; replace H := zI0 H
    rcases H with ⟨a5, H⟩ | ⟨a5, H⟩
    ·(first | rw [a5] | (simp only [i64_w, i32_w]; rw [a5]) | skip)
     have H' := zA H; clear H
     go_wp2
     go_meet
     case rel => exact ⟨_, (decide (a2 < 8)), zS, (by first | exact H' | (subst_vars; exact H')), ⟨by have := b2.out; first | omega | exact Nat.le_refl _⟩, by repeat (first | exact Drawn0.refl _ | apply Drawn0.step)⟩
    (first | rw [a5] | (simp only [i64_w, i32_w]; rw [a5]) | skip)
    have H' := zA H; clear H
    go_wp2
    go_meet
    case rel => exact ⟨_, (false), zS, (by first | exact H' | (subst_vars; exact H')), ⟨by have := b2.out; first | omega | exact Nat.le_refl _⟩, by repeat (first | exact Drawn0.refl _ | apply Drawn0.step)⟩
   case rest =>
    clear b3
    try clear p2
    try clear c4
    try clear a5
    try clear p2
    obtain ⟨kq, b4, rfl, HA, b5, ⟨d3, rfl⟩⟩ := hcut
    cases kq with
    | zero => exact absurd HA.out (by simp [spec_ParseNum.j1])
    | succ c5 =>
     have H := HA.out; clear HA; simp only [spec_ParseNum.j1] at H; replace H := zB0 H
     rcases H with ⟨rfl, H⟩ | ⟨rfl, H⟩
     ·replace H := zD0 H; obtain ⟨d4, H⟩ := H; replace H := zD0 H; obtain ⟨d5, H⟩ := H; replace H := Option.bind_eq_some_iff.mp H; obtain ⟨d6, b6, H⟩ := H
      try dsimp only at H
      have A9 := zA b6; clear b6; replace H := zB0 H
      rcases H with ⟨rfl, H⟩ | ⟨rfl, H⟩
      ·have H' := zA H; clear H; have p8 : 0 ≤ (a2 : Int) := zD; have q8 : a2 < (a0.size : Int) := zD; have c6 := bt_at a0 a2; replace p8 := eq_true p8; replace q8 := eq_true q8
       go_wp2_with (first | ((with_reducible refine zq 83 ?_); refine zg (some 21) Tryd.func83 #[.int .u8 (bt a0 a2)] ?_; (with_reducible refine (spec_l1Digit.calls (bt a0 a2) true _ A9.out).mono ?_); rintro e w' ⟨rfl, ⟨nd, rfl⟩⟩; refine ⟨_, rfl, ?_⟩; have b7 : 0 ≤ (a2 : Int) := zD; have b8 : a2 < (a0.size : Int) := zD; have d7 := bt_at a0 a2; replace b7 := eq_true b7; replace b8 := eq_true b8))
       go_roundg c5
       case measure => have := b2.out; have := b5.out; omega
       case rel => exact ⟨(wrap64 ((wrap64 (a3 * 10)) + (((bt a0 a2) - 48) % 256))), (wrap64 (a2 + 1)), zS, zS, H', ⟨by have := b2.out; have := b5.out; omega⟩, by repeat (first | exact Drawn0.refl _ | apply Drawn0.step)⟩
      simp only [zU] at H; obtain ⟨rfl, rfl⟩ := H; have p8 : 0 ≤ (a2 : Int) := zD; have q8 : a2 < (a0.size : Int) := zD; have c6 := bt_at a0 a2; replace p8 := eq_true p8; replace q8 := eq_true q8
      go_wp2_with (first | ((with_reducible refine zq 83 ?_); refine zg (some 21) Tryd.func83 #[.int .u8 (bt a0 a2)] ?_; (with_reducible refine (spec_l1Digit.calls (bt a0 a2) false _ A9.out).mono ?_); rintro e w' ⟨rfl, ⟨nd, rfl⟩⟩; refine ⟨_, rfl, ?_⟩))
      go_ret2
      exact ⟨by first | rfl | (simp; done) | (simp [*]; done) | (simp; rw [Bool.eq_iff_iff]; simp; done), by repeat (first | exact Drawn0.refl _ | apply Drawn0.step)⟩
     replace H := Option.bind_eq_some_iff.mp H; obtain ⟨d8, b9, H⟩ := H
     try dsimp only at H
     have a6 := zA b9; clear b9; replace H := zB0 H
     rcases H with ⟨rfl, H⟩ | ⟨rfl, H⟩
     ·replace H := zI1 H
      rcases H with ⟨a8, H⟩ | ⟨a8, H⟩
      ·have c7 : decide (1 < (a0.size : Int)) = true := decide_eq_true a8; have c8 : decide (1 < a0.size) = true := decide_eq_true (by omega); clear a8; replace H := zC0 H; obtain ⟨c0, H⟩ := H; have d9 := decide_eq_true c0; have e0 : decide (0 < a0.size) = true := decide_eq_true (by omega); clear c0; replace H := zI1 H
       rcases H with ⟨a7, H⟩ | ⟨a7, H⟩
       ·have c9 := beq_iff_eq.mpr a7; have d0 := bne_eq_false_iff_eq.mpr a7; clear a7; simp only [zU] at H; obtain ⟨rfl, rfl⟩ := H
        go_wp2_with (first | ((with_reducible refine zq 84 ?_); refine zg (some 33) Tryd.func84 #[.int .i64 (a0.size : Int), .int .i64 1, .int .i64 7] ?_; (with_reducible refine (spec_l1In.calls (a0.size : Int) 1 7 true _ a6.out).mono ?_); rintro e w' ⟨rfl, ⟨nd, rfl⟩⟩; refine ⟨_, rfl, ?_⟩; have a9 : 0 ≤ (0 : Int) := (by omega); have a4 : 0 < a0.size := (by have : (0 : Int) < (a0.size : Int) := zD; omega); have c1 : ∀ h : 0 < a0.size, ((a0[0]'h).toNat : Int) = bt a0 0 := bt_at a0 0; clear a9; have c2 : (0 < (a0.size : Int)) = True := eq_true (zD); replace a4 := eq_true a4))
        go_ret2
        exact ⟨by first | rfl | (simp; done) | (simp [*]; done) | (simp; rw [Bool.eq_iff_iff]; simp; done), by repeat (first | exact Drawn0.refl _ | apply Drawn0.step)⟩
       have c9 := beq_eq_false_iff_ne.mpr a7; have d0 := bne_iff_ne.mpr a7; replace H := zI1 H
       rcases H with ⟨b0, H⟩ | ⟨b0, H⟩
       ·have d1 : decide (a1 < a3) = true := decide_eq_true b0; clear b0; simp only [zU] at H; obtain ⟨rfl, rfl⟩ := H
        go_wp2_with (first | ((with_reducible refine zq 84 ?_); refine zg (some 33) Tryd.func84 #[.int .i64 (a0.size : Int), .int .i64 1, .int .i64 7] ?_; (with_reducible refine (spec_l1In.calls (a0.size : Int) 1 7 true _ a6.out).mono ?_); rintro e w' ⟨rfl, ⟨nd, rfl⟩⟩; refine ⟨_, rfl, ?_⟩; have a9 : 0 ≤ (0 : Int) := (by omega); have a4 : 0 < a0.size := (by have : (0 : Int) < (a0.size : Int) := zD; omega); have c1 : ∀ h : 0 < a0.size, ((a0[0]'h).toNat : Int) = bt a0 0 := bt_at a0 0; clear a9; have c2 : (0 < (a0.size : Int)) = True := eq_true (zD); replace a4 := eq_true a4))
        go_ret2
        exact ⟨by first | rfl | (simp; done) | (simp [*]; done) | (simp; rw [Bool.eq_iff_iff]; simp; done), by repeat (first | exact Drawn0.refl _ | apply Drawn0.step)⟩
       have d1 : decide (a1 < a3) = false := decide_eq_false b0; clear b0; simp only [zU] at H; obtain ⟨rfl, rfl⟩ := H
       go_wp2_with (first | ((with_reducible refine zq 84 ?_); refine zg (some 33) Tryd.func84 #[.int .i64 (a0.size : Int), .int .i64 1, .int .i64 7] ?_; (with_reducible refine (spec_l1In.calls (a0.size : Int) 1 7 true _ a6.out).mono ?_); rintro e w' ⟨rfl, ⟨nd, rfl⟩⟩; refine ⟨_, rfl, ?_⟩; have a9 : 0 ≤ (0 : Int) := (by omega); have a4 : 0 < a0.size := (by have : (0 : Int) < (a0.size : Int) := zD; omega); have c1 : ∀ h : 0 < a0.size, ((a0[0]'h).toNat : Int) = bt a0 0 := bt_at a0 0; clear a9; have c2 : (0 < (a0.size : Int)) = True := eq_true (zD); replace a4 := eq_true a4))
       go_ret2
       exact ⟨by first | rfl | (simp; done) | (simp [*]; done) | (simp; rw [Bool.eq_iff_iff]; simp; done), by repeat (first | exact Drawn0.refl _ | apply Drawn0.step)⟩
      have c7 : decide (1 < (a0.size : Int)) = false := decide_eq_false a8; have c8 : decide (1 < a0.size) = false := decide_eq_false (by omega); clear a8; replace H := zI1 H
      rcases H with ⟨b1, H⟩ | ⟨b1, H⟩
      ·have d2 : decide (a1 < a3) = true := decide_eq_true b1; clear b1; simp only [zU] at H; obtain ⟨rfl, rfl⟩ := H
       go_wp2_with (first | ((with_reducible refine zq 84 ?_); refine zg (some 33) Tryd.func84 #[.int .i64 (a0.size : Int), .int .i64 1, .int .i64 7] ?_; (with_reducible refine (spec_l1In.calls (a0.size : Int) 1 7 true _ a6.out).mono ?_); rintro e w' ⟨rfl, ⟨nd, rfl⟩⟩; refine ⟨_, rfl, ?_⟩))
       go_ret2
       exact ⟨by first | rfl | (simp; done) | (simp [*]; done) | (simp; rw [Bool.eq_iff_iff]; simp; done), by repeat (first | exact Drawn0.refl _ | apply Drawn0.step)⟩
      have d2 : decide (a1 < a3) = false := decide_eq_false b1; clear b1; simp only [zU] at H; obtain ⟨rfl, rfl⟩ := H
      go_wp2_with (first | ((with_reducible refine zq 84 ?_); refine zg (some 33) Tryd.func84 #[.int .i64 (a0.size : Int), .int .i64 1, .int .i64 7] ?_; (with_reducible refine (spec_l1In.calls (a0.size : Int) 1 7 true _ a6.out).mono ?_); rintro e w' ⟨rfl, ⟨nd, rfl⟩⟩; refine ⟨_, rfl, ?_⟩))
      go_ret2
      exact ⟨by first | rfl | (simp; done) | (simp [*]; done) | (simp; rw [Bool.eq_iff_iff]; simp; done), by repeat (first | exact Drawn0.refl _ | apply Drawn0.step)⟩
     simp only [zU] at H; obtain ⟨rfl, rfl⟩ := H
     go_wp2_with (first | ((with_reducible refine zq 84 ?_); refine zg (some 33) Tryd.func84 #[.int .i64 (a0.size : Int), .int .i64 1, .int .i64 7] ?_; (with_reducible refine (spec_l1In.calls (a0.size : Int) 1 7 false _ a6.out).mono ?_); rintro e w' ⟨rfl, ⟨nd, rfl⟩⟩; refine ⟨_, rfl, ?_⟩))
     go_ret2
     exact ⟨by first | rfl | (simp; done) | (simp [*]; done) | (simp; rw [Bool.eq_iff_iff]; simp; done), by repeat (first | exact Drawn0.refl _ | apply Drawn0.step)⟩
/-! ### spec_Join: function 50 -/
def spec_Join.l0 : Nat → List ByteArray → ByteArray → ByteArray → Int → Option (ByteArray)
 | 0, _, _, _, _ => none
 | k + 1, x0, x1, x5, x6 => if x6 < (x0.length : Int) then (if x6 > 0 then (if x5.size + x1.size ≤ 9223372036854775807 then (if 0 ≤ x6 then (if (x5 ++ x1).size + (rdOf ByteArray.empty x0 x6).size ≤ 9223372036854775807 then (spec_Join.l0 k x0 x1 ((x5 ++ x1) ++ (rdOf ByteArray.empty x0 x6)) (wrap64 (x6 + 1))) else (none)) else (none)) else (none)) else (if 0 ≤ x6 then (if x5.size + (rdOf ByteArray.empty x0 x6).size ≤ 9223372036854775807 then (spec_Join.l0 k x0 x1 (x5 ++ (rdOf ByteArray.empty x0 x6)) (wrap64 (x6 + 1))) else (none)) else (none))) else (some x5)
def spec_Join.f (k : Nat) (l0 : List ByteArray) (a1 : ByteArray) : Option (ByteArray) := spec_Join.l0 k l0 a1 (⟨#[]⟩ : ByteArray) 0
theorem spec_Join.calls (k : Nat) (A0 : Option Addr) (c0 : Nat) (l0 : List ByteArray) (a1 r : ByteArray) (w : World) (a8 : Kd.C Kd.string w A0 l0.length l0) (a9 : l0.length ≤ c0) (h : spec_Join.f k l0 a1 = some r) :
  Calls Tryd.prog 50 #[.slice A0 l0.length c0, .string a1] w fun e w' => e = .returned (.string r) ∧ Drawn0 w w' := by
 have b0 := zA a8
 have b5 := zA a9
 clear a8 a9
 unfold spec_Join.f at h
 have H := h
 clear h
 have H' := zA H
 clear H
 go_enter Tryd.func50, Tryd.ntmps50
 go_wp2
 go_loopg [5, 6] k (fun kq v5 v6 w' => ∃ (a2 : ByteArray) (a0 : Int), v5 = .string a2 ∧ v6 = .int .i64 a0 ∧ Aside0 (spec_Join.l0 kq l0 a1 a2 a0 = some r) ∧ Aside0 (kq ≤ k) ∧ Drawn0 w w')
 case atStart => exact ⟨((⟨#[]⟩ : ByteArray)), (0), zS, zS, H', ⟨Nat.le_refl _⟩, by repeat (first | exact Drawn0.refl _ | apply Drawn0.step)⟩
 case round =>
  clear H'
  try clear p2
  obtain ⟨a2, a0, rfl, rfl, HA, a3, ⟨m1, rfl⟩⟩ := hrel
  cases gk with
  | zero => exact absurd HA.out (by simp [spec_Join.l0])
  | succ k1 =>
   have H := HA.out; clear HA; simp only [spec_Join.l0] at H; replace H := zI0 H
   rcases H with ⟨b1, H⟩ | ⟨b1, H⟩
   ·replace H := zI1 H
    rcases H with ⟨c4, H⟩ | ⟨c4, H⟩
    ·have b2 : decide (0 < a0) = true := decide_eq_true c4; clear c4; replace H := zC0 H; obtain ⟨c5, H⟩ := H; have b6 := eq_true c5; have b7 := decide_eq_true c5
     try have b8 : (9223372036854775807 < a2.size + a1.size) = False := eq_false (Nat.not_lt.2 c5)
     replace H := zD0 H; obtain ⟨b9, H⟩ := H; replace H := zC0 H; obtain ⟨c7, H⟩ := H; have c1 := eq_true c7; have c2 := decide_eq_true c7
     try have c3 : (9223372036854775807 < (a2 ++ a1).size + (rdOf ByteArray.empty l0 a0).size) = False := eq_false (Nat.not_lt.2 c7)
     try have c6 : (9223372036854775807 < a2.size + a1.size + (rdOf ByteArray.empty l0 a0).size) = False := (by have z_ := c7; (try simp only [ByteArray.size_append] at z_); exact eq_false (Nat.not_lt.2 z_))
     have H' := zA H; clear H; have a4 : 0 ≤ (a0 : Int) := zD; have a5 : a0 < (l0.length : Int) := zD; obtain ⟨c8, b3, d0⟩ := Kd.at_string b0.out a0 a4 a5; cases b3; replace a4 := eq_true a4; replace a5 := eq_true a5
     go_wp2
     go_roundg k1
     case measure => have := a3.out; omega
     case rel => exact ⟨((a2 ++ a1) ++ (rdOf ByteArray.empty l0 a0)), (wrap64 (a0 + 1)), zS, zS, H', ⟨by have := a3.out; omega⟩, by repeat (first | exact Drawn0.refl _ | apply Drawn0.step)⟩
    have b2 : decide (0 < a0) = false := decide_eq_false c4; clear c4; replace H := zD0 H; obtain ⟨d1, H⟩ := H; replace H := zC0 H; obtain ⟨c9, H⟩ := H; have d2 := eq_true c9; have d3 := decide_eq_true c9
    try have d4 : (9223372036854775807 < a2.size + (rdOf ByteArray.empty l0 a0).size) = False := eq_false (Nat.not_lt.2 c9)
    have H' := zA H; clear H; have a6 : 0 ≤ (a0 : Int) := zD; have a7 : a0 < (l0.length : Int) := zD; obtain ⟨d5, b4, d6⟩ := Kd.at_string b0.out a0 a6 a7; cases b4; replace a6 := eq_true a6; replace a7 := eq_true a7
    go_wp2
    go_roundg k1
    case measure => have := a3.out; omega
    case rel => exact ⟨(a2 ++ (rdOf ByteArray.empty l0 a0)), (wrap64 (a0 + 1)), zS, zS, H', ⟨by have := a3.out; omega⟩, by repeat (first | exact Drawn0.refl _ | apply Drawn0.step)⟩
   obtain rfl := zm H
   go_wp2
   go_ret
   exact ⟨by first | rfl | (simp; done) | (simp [*]; done) | (simp; rw [Bool.eq_iff_iff]; simp; done), by repeat (first | exact Drawn0.refl _ | apply Drawn0.step)⟩
/-! ### spec_l1Text: function 111 -/
def spec_l1Text.f (k : Nat) (a1 : List Int) (a2 a3 : Int) : Option (ByteArray × Int × Int) := (spec_l1Str.f k a1 a2 a3 (([(⟨#[]⟩ : ByteArray), (⟨#[97]⟩ : ByteArray), (⟨#[98]⟩ : ByteArray), (⟨#[97, 98]⟩ : ByteArray), (⟨#[97, 45, 98]⟩ : ByteArray), (⟨#[65, 98]⟩ : ByteArray), (⟨#[120, 49]⟩ : ByteArray), (⟨#[101, 108, 101, 118, 101, 110, 98, 121, 116, 101, 115]⟩ : ByteArray), (⟨#[116, 101, 110, 45, 98, 121, 116, 101, 115, 49]⟩ : ByteArray), (⟨#[97, 32, 98]⟩ : ByteArray), (⟨#[9]⟩ : ByteArray), (⟨#[127]⟩ : ByteArray), (⟨#[49, 97]⟩ : ByteArray), (⟨#[45, 97]⟩ : ByteArray), (⟨#[122]⟩ : ByteArray), (⟨#[104, 101, 108, 108, 111]⟩ : ByteArray)] : List ByteArray))).bind fun a0 => (some (a0.1, a0.2.1, a0.2.2))
theorem spec_l1Text.calls (k g : Nat) (a1 : List Int) (a3 a4 : Int) (r1 : ByteArray) (r2 r3 : Int) (w0 w : World) (hI : IsS113 w0 w g a1 a3 a4) (hB : Below w0.heap.size w0 w) (h : spec_l1Text.f k a1 a3 a4 = some (r1, r2, r3)) :
  Calls Tryd.prog 111 #[.pointer (some ⟨g, 0, none⟩)] w fun e w' => e = .returned (.string r1) ∧ IsS113 w0 w' g a1 r2 r3 ∧ Below w0.heap.size w0 w' ∧ KeepBut w w' g none := by
 have a0 := zA hI
 have HK := zA (KeepBut.refl w g none)
 have HL := zA hB.size
 clear hI
 have b7 := zA hB.size
 have HB := zA hB
 clear hB
 unfold spec_l1Text.f at h
 have H := h
 clear h
 obtain ⟨a6, a7⟩ : ∃ y_ : List ByteArray, y_ = (([(⟨#[]⟩ : ByteArray), (⟨#[97]⟩ : ByteArray), (⟨#[98]⟩ : ByteArray), (⟨#[97, 98]⟩ : ByteArray), (⟨#[97, 45, 98]⟩ : ByteArray), (⟨#[65, 98]⟩ : ByteArray), (⟨#[120, 49]⟩ : ByteArray), (⟨#[101, 108, 101, 118, 101, 110, 98, 121, 116, 101, 115]⟩ : ByteArray), (⟨#[116, 101, 110, 45, 98, 121, 116, 101, 115, 49]⟩ : ByteArray), (⟨#[97, 32, 98]⟩ : ByteArray), (⟨#[9]⟩ : ByteArray), (⟨#[127]⟩ : ByteArray), (⟨#[49, 97]⟩ : ByteArray), (⟨#[45, 97]⟩ : ByteArray), (⟨#[122]⟩ : ByteArray), (⟨#[104, 101, 108, 108, 111]⟩ : ByteArray)] : List ByteArray)) := ⟨_, rfl⟩
 replace H : ((spec_l1Str.f k a1 a3 a4 a6).bind fun a8 => (some (a8.1, a8.2.1, a8.2.2))) = some (r1, r2, r3) := zY a7 H
 have a9 := zA a7
 clear a7
 replace H := Option.bind_eq_some_iff.mp H
 obtain ⟨⟨b1, b2, b3⟩, b0, H⟩ := H
 try dsimp only at H
 have A2 := zA b0
 clear b0
 simp only [zU] at H
 obtain ⟨rfl, rfl, rfl⟩ := H
 go_enter Tryd.func111, Tryd.ntmps111
 go_wp2_with (first | ((with_reducible refine gate_dst (N := 4) rfl ?_); refine Kd.R_lit Kd.string _ 9 ?hg (N := 4) ?hd (xs := ([(⟨#[]⟩ : ByteArray), (⟨#[97]⟩ : ByteArray), (⟨#[98]⟩ : ByteArray), (⟨#[97, 98]⟩ : ByteArray), (⟨#[97, 45, 98]⟩ : ByteArray), (⟨#[65, 98]⟩ : ByteArray), (⟨#[120, 49]⟩ : ByteArray), (⟨#[101, 108, 101, 118, 101, 110, 98, 121, 116, 101, 115]⟩ : ByteArray), (⟨#[116, 101, 110, 45, 98, 121, 116, 101, 115, 49]⟩ : ByteArray), (⟨#[97, 32, 98]⟩ : ByteArray), (⟨#[9]⟩ : ByteArray), (⟨#[127]⟩ : ByteArray), (⟨#[49, 97]⟩ : ByteArray), (⟨#[45, 97]⟩ : ByteArray), (⟨#[122]⟩ : ByteArray), (⟨#[104, 101, 108, 108, 111]⟩ : ByteArray)] : List ByteArray)) (inner := [.string (⟨#[]⟩ : ByteArray), .string (⟨#[97]⟩ : ByteArray), .string (⟨#[98]⟩ : ByteArray), .string (⟨#[97, 98]⟩ : ByteArray), .string (⟨#[97, 45, 98]⟩ : ByteArray), .string (⟨#[65, 98]⟩ : ByteArray), .string (⟨#[120, 49]⟩ : ByteArray), .string (⟨#[101, 108, 101, 118, 101, 110, 98, 121, 116, 101, 115]⟩ : ByteArray), .string (⟨#[116, 101, 110, 45, 98, 121, 116, 101, 115, 49]⟩ : ByteArray), .string (⟨#[97, 32, 98]⟩ : ByteArray), .string (⟨#[9]⟩ : ByteArray), .string (⟨#[127]⟩ : ByteArray), .string (⟨#[49, 97]⟩ : ByteArray), .string (⟨#[45, 97]⟩ : ByteArray), .string (⟨#[122]⟩ : ByteArray), .string (⟨#[104, 101, 108, 108, 111]⟩ : ByteArray)]) (ok := fun _ => True) ?hr ?hp (fun _ hk => hk) trivial (Below.refl _ _) (Nat.le_refl _) (by simp) ?_; (case hd => rfl); (case hg => rfl); (case hr => first | (go_simp; done) | (go_simp; rfl)); (case hp => exact (Reps.one (show Kd.M Kd.string _ _ _ (⟨#[]⟩ : ByteArray) [.string (⟨#[]⟩ : ByteArray)] from rfl) (Reps.one (show Kd.M Kd.string _ _ _ (⟨#[97]⟩ : ByteArray) [.string (⟨#[97]⟩ : ByteArray)] from rfl) (Reps.one (show Kd.M Kd.string _ _ _ (⟨#[98]⟩ : ByteArray) [.string (⟨#[98]⟩ : ByteArray)] from rfl) (Reps.one (show Kd.M Kd.string _ _ _ (⟨#[97, 98]⟩ : ByteArray) [.string (⟨#[97, 98]⟩ : ByteArray)] from rfl) (Reps.one (show Kd.M Kd.string _ _ _ (⟨#[97, 45, 98]⟩ : ByteArray) [.string (⟨#[97, 45, 98]⟩ : ByteArray)] from rfl) (Reps.one (show Kd.M Kd.string _ _ _ (⟨#[65, 98]⟩ : ByteArray) [.string (⟨#[65, 98]⟩ : ByteArray)] from rfl) (Reps.one (show Kd.M Kd.string _ _ _ (⟨#[120, 49]⟩ : ByteArray) [.string (⟨#[120, 49]⟩ : ByteArray)] from rfl) (Reps.one (show Kd.M Kd.string _ _ _ (⟨#[101, 108, 101, 118, 101, 110, 98, 121, 116, 101, 115]⟩ : ByteArray) [.string (⟨#[101, 108, 101, 118, 101, 110, 98, 121, 116, 101, 115]⟩ : ByteArray)] from rfl) (Reps.one (show Kd.M Kd.string _ _ _ (⟨#[116, 101, 110, 45, 98, 121, 116, 101, 115, 49]⟩ : ByteArray) [.string (⟨#[116, 101, 110, 45, 98, 121, 116, 101, 115, 49]⟩ : ByteArray)] from rfl) (Reps.one (show Kd.M Kd.string _ _ _ (⟨#[97, 32, 98]⟩ : ByteArray) [.string (⟨#[97, 32, 98]⟩ : ByteArray)] from rfl) (Reps.one (show Kd.M Kd.string _ _ _ (⟨#[9]⟩ : ByteArray) [.string (⟨#[9]⟩ : ByteArray)] from rfl) (Reps.one (show Kd.M Kd.string _ _ _ (⟨#[127]⟩ : ByteArray) [.string (⟨#[127]⟩ : ByteArray)] from rfl) (Reps.one (show Kd.M Kd.string _ _ _ (⟨#[49, 97]⟩ : ByteArray) [.string (⟨#[49, 97]⟩ : ByteArray)] from rfl) (Reps.one (show Kd.M Kd.string _ _ _ (⟨#[45, 97]⟩ : ByteArray) [.string (⟨#[45, 97]⟩ : ByteArray)] from rfl) (Reps.one (show Kd.M Kd.string _ _ _ (⟨#[122]⟩ : ByteArray) [.string (⟨#[122]⟩ : ByteArray)] from rfl) (Reps.one (show Kd.M Kd.string _ _ _ (⟨#[104, 101, 108, 108, 111]⟩ : ByteArray) [.string (⟨#[104, 101, 108, 108, 111]⟩ : ByteArray)] from rfl) (Reps.none _ _)))))))))))))))))); intro b8 w3 a5 hb hg_ hnew_; clear hg_ hnew_; (first | rw [← a9.out] at a5 | (simp only [Int.reduceToNat] at a5; rw [← a9.out] at a5)); have a2 := zA (Kd.R_lower a5 (keep_size (w := w) (g := g) (row := none) (zQ HK.out))); replace HK := zA (KeepBut.trans (zQ HK.out) (KeepBut.of_below hb g none) (.inl rfl)); replace HB := zA (below_step (zX HB.out (IsS113.ge a0.out)) hb); replace a0 := zA (IsS113.below (by repeat (first | (with_reducible first | exact a0.out | apply IsS113.alloc | apply IsS113.drewN | apply IsS113.drew | apply IsS113.set_1 | apply IsS113.set_2) | exact a0.out)) hb); clear hb a5; obtain ⟨b4, b5, b6⟩ := Kd.R_slice a2.out; subst b6) | ((with_reducible refine zq 65 ?_); refine zg (some 5) Tryd.func65 #[.pointer (some ⟨g, 0, none⟩), .slice b4 a6.length b5] ?_; (with_reducible refine (spec_l1Str.calls k g a1 a3 a4 _ _ a6 b1 b2 b3 w0 _ ?s1 ?s2 ?s3 ?s4 ?s5 A2.out).mono ?_); (case s1 => repeat (first | (with_reducible first | exact a0.out | apply IsS113.alloc | apply IsS113.drewN | apply IsS113.drew | apply IsS113.set_1 | apply IsS113.set_2) | exact a0.out)); (case s2 => repeat (first | (with_reducible first | exact HB.out | apply below_alloc | apply pw_below_drewN | apply below_drew1 | refine below_set ?_ (IsS113.ge a0.out)) | exact HB.out)); (case s3 => repeat (first | exact (Kd.R_reads' a2.out).2.2 | (with_reducible refine Kd.C_alloc ?_ _) | (with_reducible refine Kd.C_drewN ?_ _) | (with_reducible refine Kd.C_drew ?_))); (case s4 => exact (Kd.R_reads' a2.out).2.1); (case s5 => exact far_slice (IsS113.own_ne a0.out a2.out (by decide))); rintro e w6 ⟨rfl, hi, hb, hk⟩; refine ⟨_, rfl, ?_⟩; replace a2 := zA (Kd.R_mono (Kd.R_keep (IsS113.apart (show IsS113 w0 _ g a1 a3 a4 from by repeat (first | (with_reducible first | exact a0.out | apply IsS113.alloc | apply IsS113.drewN | apply IsS113.drew | apply IsS113.set_1 | apply IsS113.set_2) | exact a0.out)) (zR a2.out) (by decide)) hk (fun _ h => h.2)) (fun _ h => h.1)); replace HK := zA (KeepBut.trans (zQ HK.out) hk (.inl rfl)); replace HB := zA (hb); replace a0 := zA (hi); (try clear hb hk hi)))
 go_ret
 exact ⟨zE, by repeat (first | (with_reducible first | exact a0.out | apply IsS113.alloc | apply IsS113.drewN | apply IsS113.drew | apply IsS113.set_1 | apply IsS113.set_2) | exact a0.out), zX HB.out (IsS113.ge a0.out), zQ HK.out⟩
/-! ### spec_l1List: function 85 -/
def spec_l1List.l0 : Nat → List ByteArray → Int → List Int → Int → Int → Option (List ByteArray × Int × Int)
 | 0, _, _, _, _, _ => none
 | k + 1, x3, x4, a1, a2, a3 => if x4 > 0 then ((spec_l1Text.f k a1 a2 a3).bind fun a0 => (if x3.length < 8796093022208 then (spec_l1List.l0 k (x3 ++ [a0.1]) (wrap64 (x4 - 1)) a1 a0.2.1 a0.2.2) else (none))) else (some (x3, a2, a3))
def spec_l1List.f (k : Nat) (a1 : List Int) (a2 a3 : Int) : Option (List ByteArray × Int × Int) := (spec_l1Below.f k a1 a2 a3 6).bind fun a0 => (spec_l1List.l0 k (([] : List ByteArray)) a0.1 a1 a0.2.1 a0.2.2)
theorem spec_l1List.calls (k g : Nat) (a1 : List Int) (a4 a5 : Int) (r1 : List ByteArray) (r2 r3 : Int) (w0 w : World) (hI : IsS113 w0 w g a1 a4 a5) (hB : Below w0.heap.size w0 w) (h : spec_l1List.f k a1 a4 a5 = some (r1, r2, r3)) :
  Calls Tryd.prog 85 #[.pointer (some ⟨g, 0, none⟩)] w fun e w' => ∃ b7 : Value, e = .returned (b7) ∧ Kd.R Kd.string 9 w' w.heap.size (fun _ => True) b7 r1 ∧ IsS113 w0 w' g a1 r2 r3 ∧ Below w0.heap.size w0 w' ∧ KeepBut w w' g none := by
 have a0 := zA hI
 have HK := zA (KeepBut.refl w g none)
 have HL := zA hB.size
 clear hI
 have d4 := zA hB.size
 have HB := zA hB
 clear hB
 unfold spec_l1List.f at h
 have H := h
 clear h
 obtain ⟨b8, b1⟩ : ∃ y_ : List ByteArray, y_ = (([] : List ByteArray)) := ⟨_, rfl⟩
 replace H : ((spec_l1Below.f k a1 a4 a5 6).bind fun b2 => (spec_l1List.l0 k b8 b2.1 a1 b2.2.1 b2.2.2)) = some (r1, r2, r3) := zY b1 H
 have b9 := zA b1
 clear b1
 replace H := Option.bind_eq_some_iff.mp H
 obtain ⟨⟨c0, c2, c3⟩, c4, H⟩ := H
 try dsimp only at H
 have A2 := zA c4
 clear c4
 have H' := zA H
 clear H
 go_enter Tryd.func85, Tryd.ntmps85
 go_wp2_with (first | ((with_reducible refine gate_dst (N := 5) rfl ?_); refine Kd.R_lit Kd.string _ 9 ?hg (N := 5) ?hd (xs := ([] : List ByteArray)) (inner := []) (ok := fun _ => True) ?hr ?hp (fun _ hk => hk) trivial (Below.refl _ _) (Nat.le_refl _) (by simp) ?_; (case hd => rfl); (case hg => rfl); (case hr => first | (go_simp; done) | (go_simp; rfl)); (case hp => exact (Reps.none _ _)); intro d5 w3 a6 hb hg_ hnew_; clear hg_ hnew_; (first | rw [← b9.out] at a6 | (simp only [Int.reduceToNat] at a6; rw [← b9.out] at a6)); have b3 := zA (Kd.R_lower a6 (keep_size (w := w) (g := g) (row := none) (zQ HK.out))); replace HK := zA (KeepBut.trans (zQ HK.out) (KeepBut.of_below hb g none) (.inl rfl)); replace HB := zA (below_step (zX HB.out (IsS113.ge a0.out)) hb); replace a0 := zA (IsS113.below (by repeat (first | (with_reducible first | exact a0.out | apply IsS113.alloc | apply IsS113.drewN | apply IsS113.drew | apply IsS113.set_1 | apply IsS113.set_2) | exact a0.out)) hb); clear hb a6) | ((with_reducible refine zq 104 ?_); refine zg (some 7) Tryd.func104 #[.pointer (some ⟨g, 0, none⟩), .int .i64 6] ?_; (with_reducible refine (spec_l1Below.calls k g a1 a4 a5 6 c0 c2 c3 w0 _ ?s1 ?s2 A2.out).mono ?_); (case s1 => repeat (first | (with_reducible first | exact a0.out | apply IsS113.alloc | apply IsS113.drewN | apply IsS113.drew | apply IsS113.set_1 | apply IsS113.set_2) | exact a0.out)); (case s2 => repeat (first | (with_reducible first | exact HB.out | apply below_alloc | apply pw_below_drewN | apply below_drew1 | refine below_set ?_ (IsS113.ge a0.out)) | exact HB.out)); rintro e w5 ⟨rfl, hi, hb, hk⟩; refine ⟨_, rfl, ?_⟩; replace b3 := zA (Kd.R_mono (Kd.R_keep (IsS113.apart (show IsS113 w0 _ g a1 a4 a5 from by repeat (first | (with_reducible first | exact a0.out | apply IsS113.alloc | apply IsS113.drewN | apply IsS113.drew | apply IsS113.set_1 | apply IsS113.set_2) | exact a0.out)) (zR b3.out) (by decide)) hk (fun _ h => h.2)) (fun _ h => h.1)); replace HK := zA (KeepBut.trans (zQ HK.out) hk (.inl rfl)); replace HB := zA (hb); replace a0 := zA (hi); (try clear hb hk hi)))
 go_loopg [3, 4] k (fun kq v3 v4 w' => ∃ (a7 : List ByteArray) (a2 : Int) (a8 : Int) (a9 : Int), v4 = .int .i64 a2 ∧ Aside0 (spec_l1List.l0 kq a7 a2 a1 a8 a9 = some (r1, r2, r3)) ∧ Aside0 (kq ≤ k) ∧ Aside0 (Kd.R Kd.string 9 w' w.heap.size (fun _ => True) v3 a7) ∧ Aside0 (IsS113 w0 w' g a1 a8 a9) ∧ Aside0 (KeepBut w w' g none) ∧ Aside0 (Below w0.heap.size w0 w'))
 case atStart => exact ⟨(b8), (c0), (c2), (c3), zS, H', ⟨Nat.le_refl _⟩, ⟨zR b3.out⟩, ⟨by repeat (first | (with_reducible first | exact a0.out | apply IsS113.alloc | apply IsS113.drewN | apply IsS113.drew | apply IsS113.set_1 | apply IsS113.set_2) | exact a0.out)⟩, ⟨zQ HK.out⟩, ⟨zX HB.out (IsS113.ge a0.out)⟩⟩
 case round =>
  clear H'
  try clear c1
  try clear p2
  obtain ⟨a7, a2, a8, a9, rfl, HA, c5, a3, a0, HK, HB⟩ := hrel
  cases gk with
  | zero => exact absurd HA.out (by simp [spec_l1List.l0])
  | succ k1 =>
   have H := HA.out; clear HA; simp only [spec_l1List.l0] at H; replace H := zI1 H
   rcases H with ⟨c6, H⟩ | ⟨c6, H⟩
   ·have d0 : decide (0 < a2) = true := decide_eq_true c6; clear c6; replace H := Option.bind_eq_some_iff.mp H; obtain ⟨⟨b0, b4, b5⟩, c7, H⟩ := H
    try dsimp only at H
    have A7 := zA c7; clear c7; replace H := zC0 H; obtain ⟨c8, H⟩ := H; have d1 := zA c8; clear c8; obtain ⟨c9, b6⟩ : ∃ y_ : List ByteArray, y_ = (a7 ++ [b0]) := ⟨_, rfl⟩; replace H : (spec_l1List.l0 k1 c9 (wrap64 (a2 - 1)) a1 b4 b5) = some (r1, r2, r3) := zY b6 H; have d2 := zA b6; clear b6; have H' := zA H; clear H
    go_wp2_with (first | ((with_reducible refine zq 111 ?_); refine zg (some 14) Tryd.func111 #[.pointer (some ⟨g, 0, none⟩)] ?_; (with_reducible refine (spec_l1Text.calls k1 g a1 a8 a9 b0 b4 b5 w0 _ ?s1 ?s2 A7.out).mono ?_); (case s1 => repeat (first | (with_reducible first | exact a0.out | apply IsS113.alloc | apply IsS113.drewN | apply IsS113.drew | apply IsS113.set_1 | apply IsS113.set_2) | exact a0.out)); (case s2 => repeat (first | (with_reducible first | exact HB.out | apply below_alloc | apply pw_below_drewN | apply below_drew1 | refine below_set ?_ (IsS113.ge a0.out)) | exact HB.out)); rintro e w9 ⟨rfl, hi, hb, hk⟩; refine ⟨_, rfl, ?_⟩; replace a3 := zA (Kd.R_mono (Kd.R_keep (IsS113.apart (show IsS113 w0 _ g a1 a8 a9 from by repeat (first | (with_reducible first | exact a0.out | apply IsS113.alloc | apply IsS113.drewN | apply IsS113.drew | apply IsS113.set_1 | apply IsS113.set_2) | exact a0.out)) (zR a3.out) (by decide)) hk (fun _ h => h.2)) (fun _ h => h.1)); replace HK := zA (KeepBut.trans (zQ HK.out) hk (.inl rfl)); replace HB := zA (hb); replace a0 := zA (hi); (try clear hb hk hi)) | ((with_reducible refine gate_builtin (b := .append) (xs := #[.tmp 12, .tmp 15]) rfl ?_); at_builtin; refine Kd.R_append Kd.string w.heap.size rfl (.tmp 12) (.tmp 15) 47 9 (.string ⟨#[]⟩) 16 rfl Tryd.underlying47 info9 rfl (by decide) (by omega) u3 a7 b0 [.string b0] (fun _ => True) (fun _ => False) rfl rfl ?aP (fun _ hk => hk.elim) ?aF ?aO (Below.refl _ _) ?aS ?aL ?_; (case aP => exact rfl); (case aF => exact (fun _ _ => trivial)); (case aO => exact (zR a3.out)); (case aS => exact (keep_size (w := w) (g := g) (row := none) (zQ HK.out))); (case aL => have := d1.out; omega); intro d6 d7 ho hb hg hat; rw [← d2.out] at ho; replace HB := zA (below_weaken (zX HB.out (IsS113.ge a0.out)) HL.out hb); replace a0 := zA (IsS113.grown (by repeat (first | (with_reducible first | exact a0.out | apply IsS113.alloc | apply IsS113.drewN | apply IsS113.drew | apply IsS113.set_1 | apply IsS113.set_2) | exact a0.out)) hg (IsS113.own_ne a0.out a3.out (by decide))); replace HK := zA (KeepBut.trans (zQ HK.out) (KeepBut.of_grown hg g) (Kd.R_base2 a3.out)); have d3 := zA (ho); clear a3; clear ho hb hg hat))
    go_roundg k1
    case measure => have := c5.out; omega
    case rel => exact ⟨(c9), (wrap64 (a2 - 1)), (b4), (b5), zS, H', ⟨by have := c5.out; omega⟩, ⟨zR d3.out⟩, ⟨by repeat (first | (with_reducible first | exact a0.out | apply IsS113.alloc | apply IsS113.drewN | apply IsS113.drew | apply IsS113.set_1 | apply IsS113.set_2) | exact a0.out)⟩, ⟨zQ HK.out⟩, ⟨zX HB.out (IsS113.ge a0.out)⟩⟩
   have d0 : decide (0 < a2) = false := decide_eq_false c6; clear c6; simp only [zU] at H; obtain ⟨rfl, rfl, rfl⟩ := H
   go_wp2
   go_ret
   exact ⟨_, zE, zR a3.out, by repeat (first | (with_reducible first | exact a0.out | apply IsS113.alloc | apply IsS113.drewN | apply IsS113.drew | apply IsS113.set_1 | apply IsS113.set_2) | exact a0.out), zX HB.out (IsS113.ge a0.out), zQ HK.out⟩
/-! ### spec_DrawSplit: function 42 -/
def spec_DrawSplit.f (k : Nat) (l0 : List Int) : Option (ByteArray × Int) := (spec_l1New.f k l0).bind fun a0 => ((spec_l1List.f k a0.1 a0.2.1 a0.2.2).bind fun a1 => ((spec_Join.f k a1.1 (⟨#[44]⟩ : ByteArray)).bind fun a2 => ((spec_l1Int.f k a0.1 a1.2.1 a1.2.2 (([44, 44, 97, 0] : List Int))).bind fun a3 => (some (a2, (a3.1) % 256)))))
theorem spec_DrawSplit.calls (k : Nat) (A0 : Option Addr) (c0 : Nat) (l0 : List Int) (r1 : ByteArray) (r2 : Int) (w : World) (b1 : Kd.C (Kd.int .u8) w A0 l0.length l0) (b2 : l0.length ≤ c0) (h : spec_DrawSplit.f k l0 = some (r1, r2)) :
  Calls Tryd.prog 42 #[.slice A0 l0.length c0] w fun e w' => e = .returned (.tuple #[.string r1, .int .u8 r2]) ∧ Below w.heap.size w w' := by
 have c3 := zA b1
 have c4 := zA b2
 clear b1 b2
 have HB := zA (Below.refl w.heap.size w)
 unfold spec_DrawSplit.f at h
 have H := h
 clear h
 replace H := Option.bind_eq_some_iff.mp H
 obtain ⟨⟨a2, b3, b4⟩, b5, H⟩ := H
 try dsimp only at H
 have A2 := zA b5
 clear b5
 replace H := Option.bind_eq_some_iff.mp H
 obtain ⟨⟨a8, a5, a6⟩, b6, H⟩ := H
 try dsimp only at H
 have A3 := zA b6
 clear b6
 replace H := Option.bind_eq_some_iff.mp H
 obtain ⟨b7, b8, H⟩ := H
 try dsimp only at H
 have A4 := zA b8
 clear b8
 obtain ⟨a9, b0⟩ : ∃ y_ : List Int, y_ = (([44, 44, 97, 0] : List Int)) := ⟨_, rfl⟩
 replace H : ((spec_l1Int.f k a2 a5 a6 a9).bind fun c5 => (some (b7, (c5.1) % 256))) = some (r1, r2) := zY b0 H
 have b9 := zA b0
 clear b0
 replace H := Option.bind_eq_some_iff.mp H
 obtain ⟨⟨c6, c7, c8⟩, c1, H⟩ := H
 try dsimp only at H
 have A5 := zA c1
 clear c1
 simp only [zU] at H
 obtain ⟨rfl, rfl⟩ := H
 go_enter Tryd.func42, Tryd.ntmps42
 go_wp2_with (first | ((with_reducible refine zq 64 ?_); refine zg (some 7) Tryd.func64 #[.slice A0 l0.length c0] ?_; (with_reducible refine (spec_l1New.calls k _ _ l0 a2 b3 b4 w _ ?s1 ?s2 ?s3 A2.out).mono ?_); (case s1 => repeat (first | (with_reducible first | exact HB.out | apply below_alloc | apply pw_below_drewN | apply below_drew1) | exact HB.out)); (case s2 => exact c3.out); (case s3 => exact c4.out); rintro e w6 ⟨a3, rfl, hi, hb, c9⟩; refine ⟨_, rfl, ?_⟩; replace HB := zA (hb); have a0 := zA (hi); (try clear hb c9 hi)) | ((with_reducible refine zq 85 ?_); refine zg (some 9) Tryd.func85 #[.pointer (some ⟨a3, 0, none⟩)] ?_; (with_reducible refine (spec_l1List.calls k a3 a2 b3 b4 a8 a5 a6 w _ ?s1 ?s2 A3.out).mono ?_); (case s1 => repeat (first | (with_reducible first | exact a0.out | apply IsS113.alloc | apply IsS113.drewN | apply IsS113.drew | apply IsS113.set_1 | apply IsS113.set_2) | exact a0.out)); (case s2 => repeat (first | (with_reducible first | exact HB.out | apply below_alloc | apply pw_below_drewN | apply below_drew1 | refine below_set ?_ (IsS113.ge a0.out)) | exact HB.out)); rintro e w7 ⟨d6, rfl, c2, hi, hb, hk⟩; refine ⟨_, rfl, ?_⟩; have a1 := zA (Kd.R_lower c2 (below_size (zX HB.out (IsS113.ge a0.out)))); replace HB := zA (hb); replace a0 := zA (hi); (try clear hb hk hi c2); obtain ⟨d0, d1, d2⟩ := Kd.R_slice a1.out; subst d2) | ((with_reducible refine zq 50 ?_); refine zg (some 11) Tryd.func50 #[.slice d0 a8.length d1, .string (⟨#[44]⟩ : ByteArray)] ?_; (with_reducible refine (spec_Join.calls k _ _ a8 (⟨#[44]⟩ : ByteArray) b7 _ ?s1 ?s2 A4.out).mono ?_); (case s1 => repeat (first | exact (Kd.R_reads' a1.out).2.2 | (with_reducible refine Kd.C_alloc ?_ _) | (with_reducible refine Kd.C_drewN ?_ _) | (with_reducible refine Kd.C_drew ?_))); (case s2 => exact (Kd.R_reads' a1.out).2.1); rintro e w' ⟨rfl, ⟨nd, rfl⟩⟩; refine ⟨_, rfl, ?_⟩) | ((with_reducible refine gate_dst (N := 13) rfl ?_); refine Kd.R_lit (Kd.int .i64) _ 3 ?hg (N := 13) ?hd (xs := ([44, 44, 97, 0] : List Int)) (inner := [.int .i64 44, .int .i64 44, .int .i64 97, .int .i64 0]) (ok := fun _ => True) ?hr ?hp (fun _ hk => hk) trivial (Below.refl _ _) (Nat.le_refl _) (by simp) ?_; (case hd => rfl); (case hg => rfl); (case hr => first | (go_simp; done) | (go_simp; rfl)); (case hp => exact (Reps.one (show Kd.M (Kd.int .i64) _ _ _ 44 [.int .i64 44] from rfl) (Reps.one (show Kd.M (Kd.int .i64) _ _ _ 44 [.int .i64 44] from rfl) (Reps.one (show Kd.M (Kd.int .i64) _ _ _ 97 [.int .i64 97] from rfl) (Reps.one (show Kd.M (Kd.int .i64) _ _ _ 0 [.int .i64 0] from rfl) (Reps.none _ _)))))); intro d7 w9 a7 hb hg_ hnew_; clear hg_ hnew_; (first | rw [← b9.out] at a7 | (simp only [Int.reduceToNat] at a7; rw [← b9.out] at a7)); replace a1 := zr a1 hb; have a4 := zA (Kd.R_lower a7 (below_size (zX HB.out (IsS113.ge a0.out)))); replace HB := zA (below_step (zX HB.out (IsS113.ge a0.out)) hb); replace a0 := zA (IsS113.below (by repeat (first | (with_reducible first | exact a0.out | apply IsS113.alloc | apply IsS113.drewN | apply IsS113.drew | apply IsS113.set_1 | apply IsS113.set_2) | exact a0.out)) hb); clear hb a7; obtain ⟨d3, d4, d5⟩ := Kd.R_slice a4.out; subst d5) | ((with_reducible refine zq 82 ?_); refine zg (some 14) Tryd.func82 #[.pointer (some ⟨a3, 0, none⟩), .slice d3 a9.length d4] ?_; (with_reducible refine (spec_l1Int.calls k a3 a2 a5 a6 _ _ a9 c6 c7 c8 w _ ?s1 ?s2 ?s3 ?s4 ?s5 A5.out).mono ?_); (case s1 => repeat (first | (with_reducible first | exact a0.out | apply IsS113.alloc | apply IsS113.drewN | apply IsS113.drew | apply IsS113.set_1 | apply IsS113.set_2) | exact a0.out)); (case s2 => repeat (first | (with_reducible first | exact HB.out | apply below_alloc | apply pw_below_drewN | apply below_drew1 | refine below_set ?_ (IsS113.ge a0.out)) | exact HB.out)); (case s3 => repeat (first | exact (Kd.R_reads' a4.out).2.2 | (with_reducible refine Kd.C_alloc ?_ _) | (with_reducible refine Kd.C_drewN ?_ _) | (with_reducible refine Kd.C_drew ?_))); (case s4 => exact (Kd.R_reads' a4.out).2.1); (case s5 => exact far_slice (IsS113.own_ne a0.out a4.out (by decide))); rintro e d8 ⟨rfl, hi, hb, hk⟩; refine ⟨_, rfl, ?_⟩; replace a1 := zA (Kd.R_mono (Kd.R_keep (IsS113.apart (show IsS113 w _ a3 a2 a5 a6 from by repeat (first | (with_reducible first | exact a0.out | apply IsS113.alloc | apply IsS113.drewN | apply IsS113.drew | apply IsS113.set_1 | apply IsS113.set_2) | exact a0.out)) (zR a1.out) (by decide)) hk (fun _ h => h.2)) (fun _ h => h.1)); replace a4 := zA (Kd.R_mono (Kd.R_keep (IsS113.apart (show IsS113 w _ a3 a2 a5 a6 from by repeat (first | (with_reducible first | exact a0.out | apply IsS113.alloc | apply IsS113.drewN | apply IsS113.drew | apply IsS113.set_1 | apply IsS113.set_2) | exact a0.out)) (zR a4.out) (by decide)) hk (fun _ h => h.2)) (fun _ h => h.1)); replace HB := zA (hb); replace a0 := zA (hi); (try clear hb hk hi)))
 go_ret2
 exact ⟨zE, zX HB.out (IsS113.ge a0.out)⟩
/-! ### spec_DrawSorted: function 43 -/
def spec_DrawSorted.f (k : Nat) (l0 : List Int) : Option (List ByteArray) := (spec_l1New.f k l0).bind fun a0 => ((spec_l1List.f k a0.1 a0.2.1 a0.2.2).bind fun a1 => (some a1.1))
theorem spec_DrawSorted.calls (k : Nat) (A0 : Option Addr) (c0 : Nat) (l0 : List Int) (r : List ByteArray) (w : World) (a1 : Kd.C (Kd.int .u8) w A0 l0.length l0) (a2 : l0.length ≤ c0) (h : spec_DrawSorted.f k l0 = some r) :
  Calls Tryd.prog 43 #[.slice A0 l0.length c0] w fun e w' => ∃ a3 : Value, e = .returned (a3) ∧ Kd.R Kd.string 9 w' w.heap.size (fun _ => True) a3 r ∧ Below w.heap.size w w' := by
 have b1 := zA a1
 have b2 := zA a2
 clear a1 a2
 have HB := zA (Below.refl w.heap.size w)
 unfold spec_DrawSorted.f at h
 have H := h
 clear h
 replace H := Option.bind_eq_some_iff.mp H
 obtain ⟨⟨a4, a5, a6⟩, a7, H⟩ := H
 try dsimp only at H
 have A2 := zA a7
 clear a7
 replace H := Option.bind_eq_some_iff.mp H
 obtain ⟨⟨b3, b4, b5⟩, a8, H⟩ := H
 try dsimp only at H
 have A3 := zA a8
 clear a8
 obtain rfl := zm H
 go_enter Tryd.func43, Tryd.ntmps43
 go_wp2_with (first | ((with_reducible refine zq 64 ?_); refine zg (some 5) Tryd.func64 #[.slice A0 l0.length c0] ?_; (with_reducible refine (spec_l1New.calls k _ _ l0 a4 a5 a6 w _ ?s1 ?s2 ?s3 A2.out).mono ?_); (case s1 => repeat (first | (with_reducible first | exact HB.out | apply below_alloc | apply pw_below_drewN | apply below_drew1) | exact HB.out)); (case s2 => exact b1.out); (case s3 => exact b2.out); rintro e w4 ⟨a9, rfl, hi, hb, b6⟩; refine ⟨_, rfl, ?_⟩; replace HB := zA (hb); have a0 := zA (hi); (try clear hb b6 hi)) | ((with_reducible refine zq 85 ?_); refine zg (some 7) Tryd.func85 #[.pointer (some ⟨a9, 0, none⟩)] ?_; (with_reducible refine (spec_l1List.calls k a9 a4 a5 a6 b3 b4 b5 w _ ?s1 ?s2 A3.out).mono ?_); (case s1 => repeat (first | (with_reducible first | exact a0.out | apply IsS113.alloc | apply IsS113.drewN | apply IsS113.drew | apply IsS113.set_1 | apply IsS113.set_2) | exact a0.out)); (case s2 => repeat (first | (with_reducible first | exact HB.out | apply below_alloc | apply pw_below_drewN | apply below_drew1 | refine below_set ?_ (IsS113.ge a0.out)) | exact HB.out)); rintro e w5 ⟨b8, rfl, b0, hi, hb, hk⟩; refine ⟨_, rfl, ?_⟩; have b7 := zA (Kd.R_lower b0 (below_size (zX HB.out (IsS113.ge a0.out)))); replace HB := zA (hb); replace a0 := zA (hi); (try clear hb hk hi b0)))
 go_ret
 exact ⟨_, zE, zR b7.out, zX HB.out (IsS113.ge a0.out)⟩
/-! ### slices_Clone_string_string: function 86 -/
def slices_Clone_string_string.f (l0 : List ByteArray) : Option (List ByteArray) := (some (([] : List ByteArray) : List ByteArray)).bind fun a0 => (if a0.length + l0.length < 8796093022208 then (some (a0 ++ l0)) else (none))
theorem slices_Clone_string_string.calls (A0 : Option Addr) (c0 : Nat) (l0 r : List ByteArray) (w : World) (a5 : Kd.C Kd.string w A0 l0.length l0) (a6 : l0.length ≤ c0) (h : slices_Clone_string_string.f l0 = some r) :
  Calls Tryd.prog 86 #[.slice A0 l0.length c0] w fun e w' => ∃ a7 : Value, e = .returned (a7) ∧ Kd.R Kd.string 9 w' w.heap.size (fun _ => True) a7 r ∧ Below w.heap.size w w' := by
 have a8 := zA a5
 have b5 := zA a6
 clear a5 a6
 have HB := zA (Below.refl w.heap.size w)
 unfold slices_Clone_string_string.f at h
 have H := h
 clear h
 obtain ⟨a1, a2⟩ : ∃ y_ : List ByteArray, y_ = (([] : List ByteArray)) := ⟨_, rfl⟩
 replace H : (if a1.length + l0.length < 8796093022208 then (some (a1 ++ l0)) else (none)) = some r := zY a2 H
 have a3 := zA a2
 clear a2
 replace H := zC0 H
 obtain ⟨c2, H⟩ := H
 have b1 := zA c2
 clear c2
 obtain ⟨b2, a4⟩ : ∃ y_ : List ByteArray, y_ = (a1 ++ l0) := ⟨_, rfl⟩
 replace H : (some b2) = some r := zY a4 H
 have a9 := zA a4
 clear a4
 obtain rfl := zm H
 rcases A0 with _ | A0v
 ·have he_ : l0 = [] := by
   rcases l0 with _ | ⟨x_, l_⟩
   ·rfl
   ·obtain ⟨_, h_, _⟩ := a8.out.2.2 (by simp); cases h_
  subst he_
  have hq_ : ∀ W : World, Sem.run Tryd.prog (Go.binOp .eql 47 (.slice none 0 c0) (.slice none 0 0)) W = .ok (.bool true) W := fun W => by rw [Lib.run_eql_slice_nil W 47 9 none 0 c0 0 0 Tryd.underlying47]; rfl
  go_enter Tryd.func86, Tryd.ntmps86
  go_wp2
  go_ret
  exact ⟨_, rfl, (by rw [a9.out, a3.out]; exact Kd.R_nil _ _ _ _ _), zB⟩
 have hq_ : ∀ W : World, Sem.run Tryd.prog (Go.binOp .eql 47 (.slice (some A0v) l0.length c0) (.slice none 0 0)) W = .ok (.bool false) W := fun W => by rw [Lib.run_eql_slice_nil W 47 9 (some A0v) l0.length c0 0 0 Tryd.underlying47]; rfl
 go_enter Tryd.func86, Tryd.ntmps86
 go_wp2_with (first | ((with_reducible refine gate_dst (N := 5) rfl ?_); refine Kd.R_lit Kd.string _ 9 ?hg (N := 5) ?hd (xs := ([] : List ByteArray)) (inner := []) (ok := fun _ => True) ?hr ?hp (fun _ hk => hk) trivial (Below.refl _ _) (Nat.le_refl _) (by simp) ?_; (case hd => rfl); (case hg => rfl); (case hr => first | (go_simp; done) | (go_simp; rfl)); (case hp => exact (Reps.none _ _)); intro b3 w3 a0 hb hg_ hnew_; clear hg_ hnew_; (first | rw [← a3.out] at a0 | (simp only [Int.reduceToNat] at a0; rw [← a3.out] at a0)); have b0 := zA (Kd.R_lower a0 (below_size (zB))); replace HB := zA (below_step (zB) hb); clear hb a0) | ((with_reducible refine gate_builtin (b := .append) (xs := #[.tmp 5, .tmp 6]) rfl ?_); at_builtin; refine Kd.R_append_rows Kd.string (w0 := w) w.heap.size rfl (.tmp 5) (.tmp 6) 47 9 (.string ⟨#[]⟩) 16 rfl Tryd.underlying47 info9 rfl (by decide) (by omega) b3 a1 l0 _ _ _ (fun _ => True) (fun _ => False) rfl rfl ?aO ?aR (fun _ _ h => h) (fun _ h => h.elim) ?aF ?aB ?aS ?aL ?_; (case aR => repeat (first | exact (Kd.C_below a8.out HB.out) | (with_reducible refine Kd.C_alloc ?_ _) | (with_reducible refine Kd.C_drewN ?_ _) | (with_reducible refine Kd.C_drew ?_))); (case aB => exact (zB)); (case aF => exact (fun _ _ => trivial)); (case aO => exact (zR b0.out)); (case aS => exact (below_size (zB))); (case aL => have := b1.out; omega); intro b6 w5 ho hb hg hat; rw [← a9.out] at ho; replace HB := zA (hb); have b4 := zA (ho); clear b0; clear ho hb hg hat))
 go_ret
 exact ⟨_, zE, zR b4.out, zB⟩
/-! ### impl_Sorted: function 44 -/
/-- A slice whose capacity is cut to its length. -/
def impl_Sorted.clip : Value → Value
 | .slice A n _ => .slice A n n
 | v => v
def impl_Sorted.strs (l : List ByteArray) : List (List UInt8) := l.map fun x => x.data.toList
def impl_Sorted.back (l : List (List UInt8)) : List ByteArray := l.map fun b => ⟨b.toArray⟩
theorem impl_Sorted.strs_back (l : List (List UInt8)) : impl_Sorted.strs (impl_Sorted.back l) = l := by
 rw [impl_Sorted.strs, impl_Sorted.back, List.map_map]
 exact List.map_id'' (fun _ => rfl) l
theorem impl_Sorted.back_strs (l : List ByteArray) : impl_Sorted.back (impl_Sorted.strs l) = l := by
 rw [impl_Sorted.strs, impl_Sorted.back, List.map_map]
 exact List.map_id'' (fun _ => rfl) l
theorem impl_Sorted.encs_strs (l : List ByteArray) : encs Value.string l = (impl_Sorted.strs l).map encStr := by
 rw [encs, impl_Sorted.strs, List.map_map]
 rfl
def impl_Sorted.rise (l : List ByteArray) : List ByteArray := impl_Sorted.back ((impl_Sorted.strs l).mergeSort fun x y => decide (x ≤ y))
def impl_Sorted.once (l : List ByteArray) : List ByteArray := impl_Sorted.back (Lib.compact (impl_Sorted.strs l))
def impl_Sorted.f (l0 : List ByteArray) : Option (List ByteArray) := (slices_Clone_string_string.f l0).bind fun y => some (impl_Sorted.once (impl_Sorted.rise y))
/-- The row behind a store of other texts into it. -/
theorem impl_Sorted.turned {w w' : World} {base : Nat} {ok : Nat → Prop} {g n c : Nat} {l m : List ByteArray} (h : Kd.R Kd.string 9 w base ok (.slice (some ⟨g, 0, none⟩) n c) l) (hm : m.length = l.length)
  (hw : ∃ q os, w' = Go.Sort.grow (Go.Sort.putRow encStr (Go.Sort.ahead w q) g 0 (impl_Sorted.strs m).toArray) os) :
  Kd.R Kd.string 9 w' base ok (.slice (some ⟨g, 0, none⟩) n c) m ∧ w.grownBy w' (some g) := by
 obtain ⟨q, os, rfl⟩ := hw
 have ho := Kd.own_of_R h
 have hok := h.1
 have hn : n = l.length := (Kd.R_reads' h).1
 subst hn
 rcases ho.2 with ⟨hv, _⟩ | ⟨g', cap, cur, hv, hbase, hb, h1, h2, h3, _⟩
 ·cases hv
 ·injection hv with ha _ hc; injection ha with ha; injection ha with hg; subst hg; subst hc
  have hlen : (impl_Sorted.strs l).length = l.length := by simp [impl_Sorted.strs]
  have hlen' : (impl_Sorted.strs m).length = (impl_Sorted.strs l).length := by simp [impl_Sorted.strs, hm]
  have r := ownsRow_sorted (n := q) (os := os) hlen' hbase hb (by rw [hlen]; exact h1) h2 h3; rw [hlen, ← impl_Sorted.encs_strs] at r
  refine ⟨Kd.R_of_own (by rw [hm]; exact r) hok, grownBy_sorted _⟩
theorem impl_Sorted.holds {w : World} {base : Nat} {ok : Nat → Prop} {g n c : Nat} {l : List ByteArray} (h : Kd.R Kd.string 9 w base ok (.slice (some ⟨g, 0, none⟩) n c) l) :
  Go.Sort.Holds encStr w g 0 (impl_Sorted.strs l).toArray ∧ g < w.heap.size ∧ base ≤ g ∧ l.length ≤ c ∧ c ≤ maxLen := by
 have ho := Kd.own_of_R h
 have hn : n = l.length := (Kd.R_reads' h).1
 subst hn
 rcases ho.2 with ⟨hv, _⟩ | ⟨g', cap, cur, hv, hbase, hb, h1, h2, h3, h4⟩
 ·cases hv
 ·injection hv with ha _ hc; injection ha with ha; injection ha with hg; subst hg; subst hc
  have hlen : (impl_Sorted.strs l).length = l.length := by simp [impl_Sorted.strs]
  refine ⟨holds_of_block hb ?_, (Array.getElem?_eq_some_iff.1 hb).1, hbase, h1, h2⟩
  rw [hlen, ← impl_Sorted.encs_strs]
  simpa using h4
/-- The first elements of a row, told of the slice that is cut to them. -/
theorem impl_Sorted.front {w : World} {base : Nat} {ok : Nat → Prop} {g n c m : Nat} {l : List ByteArray} (h : Kd.R Kd.string 9 w base ok (.slice (some ⟨g, 0, none⟩) n c) l) (hm : m ≤ n) :
  Kd.R Kd.string 9 w base ok (.slice (some ⟨g, 0, none⟩) m c) (l.take m) := by
 have ho := Kd.own_of_R h
 have hok := h.1
 have hn : n = l.length := (Kd.R_reads' h).1
 subst hn
 refine Kd.R_of_own ?_ hok
 have hl : (l.take m).length = m := by rw [List.length_take]; omega
 rcases ho.2 with ⟨hv, _⟩ | ⟨g', cap, cur, hv, hbase, hb, h1, h2, h3, h4⟩
 ·cases hv
 ·injection hv with ha _ hc; injection ha with ha; injection ha with hg; subst hg; subst hc
  refine ⟨by simp [encs], .inr ⟨g, c, cur, by rw [hl], hbase, hb, by omega, h2, h3, ?_⟩⟩
  have e := congrArg (List.take (m * 1)) h4; rw [List.take_take, Nat.min_eq_left (by omega)] at e; rw [hl, e, encs, encs, Nat.mul_one, List.map_take]
theorem impl_Sorted.sort_R (base : Nat) (ok : Nat → Prop) (v : Value) (l : List ByteArray) (w : World) (h : Kd.R Kd.string 9 w base ok v l) (hb : base ≤ w.heap.size) (hl : l.length < 4611686018427387904) :
  Calls Tryd.prog 87 #[v] w fun e w' => e = .returned (.tuple #[]) ∧ Kd.R Kd.string 9 w' base ok v (impl_Sorted.rise l) ∧ Below base w w' := by
 have hr : (impl_Sorted.rise l).length = l.length := by simp [impl_Sorted.rise, impl_Sorted.back, impl_Sorted.strs]
 rcases Nat.eq_zero_or_pos l.length with h0 | h0
 ·obtain ⟨A, c, rfl⟩ := Kd.R_slice h; have a0 : l = [] := List.length_eq_zero_iff.1 h0; subst a0
  refine (Tryd.slices_Sort_string_none A c w).mono ?_
  rintro e w' ⟨rfl, rfl⟩
  have e0 : impl_Sorted.rise [] = [] := List.length_eq_zero_iff.1 hr; rw [e0]
  exact ⟨rfl, h, Below.refl _ _⟩
 ·obtain ⟨g, c, rfl, -, -, -⟩ := Kd.R_form h h0; obtain ⟨hH, hg, hbg, -, -⟩ := impl_Sorted.holds h
  have e1 : l.length = (impl_Sorted.strs l).length := by simp [impl_Sorted.strs]
  have hc := Tryd.slices_Sort_string g 0 c (impl_Sorted.strs l) w hH hg (by rw [← e1]; exact hl); rw [← e1] at hc
  refine hc.mono ?_
  rintro e w' ⟨rfl, n, os, rfl⟩
  obtain ⟨t1, t2⟩ := impl_Sorted.turned (m := impl_Sorted.rise l) h hr ⟨n, os, by rw [impl_Sorted.rise, impl_Sorted.strs_back]⟩
  exact ⟨rfl, t1, Below.grown (row := some g) (Below.refl _ _) t2 hb (fun k e => by injection e with e; omega)⟩
theorem impl_Sorted.compact_R (base : Nat) (ok : Nat → Prop) (A : Option Addr) (n c : Nat) (l : List ByteArray) (w : World) (h : Kd.R Kd.string 9 w base ok (.slice A n c) l) (hb : base ≤ w.heap.size) :
  Calls Tryd.prog 89 #[.slice A n c] w fun e w' => e = .returned (.slice A (impl_Sorted.once l).length c) ∧ Kd.R Kd.string 9 w' base ok (.slice A (impl_Sorted.once l).length c) (impl_Sorted.once l) ∧ Below base w w' := by
 have hn : n = l.length := (Kd.R_reads' h).1
 subst hn
 rcases Nat.eq_zero_or_pos l.length with h0 | h0
 ·have a0 : l = [] := List.length_eq_zero_iff.1 h0; subst a0
  refine (Tryd.slices_Compact_string_empty A c w).mono ?_
  rintro e w' ⟨rfl, rfl⟩
  exact ⟨rfl, h, Below.refl _ _⟩
 ·obtain ⟨g, c', hv, -, -, -⟩ := Kd.R_form h h0; injection hv with hA _ hc; subst hA; subst hc; obtain ⟨hH, hg, hbg, hlc, hcm⟩ := impl_Sorted.holds h
  have e1 : (impl_Sorted.strs l).length = l.length := by simp [impl_Sorted.strs]
  have hle : (impl_Sorted.once l).length ≤ l.length := by
   have := Lib.compact_length_le (impl_Sorted.strs l)
   rw [impl_Sorted.once, impl_Sorted.back, List.length_map]
   omega
  have e2 : (impl_Sorted.once l).length = (Lib.compact (impl_Sorted.strs l)).length := by rw [impl_Sorted.once, impl_Sorted.back, List.length_map]
  have hc := Tryd.slices_Compact_string g 0 c (impl_Sorted.strs l) w hH (by unfold maxLen at hcm; omega) (by omega); rw [e1, ← e2] at hc
  refine hc.mono ?_
  rintro e w' ⟨rfl, q, rfl⟩
  obtain ⟨t1, t2⟩ := impl_Sorted.turned (m := impl_Sorted.once l ++ List.replicate (l.length - (impl_Sorted.once l).length) ByteArray.empty) (w' := Go.Sort.putRow encStr (Go.Sort.ahead w q) g 0 (Lib.compact (impl_Sorted.strs l) ++ List.replicate (l.length - (impl_Sorted.once l).length) []).toArray) h (by rw [List.length_append, List.length_replicate]; omega)
   ⟨q, #[], by
    rw [Go.Sort.grow_empty]
    have e3 : impl_Sorted.strs (impl_Sorted.once l ++ List.replicate (l.length - (impl_Sorted.once l).length) ByteArray.empty) = Lib.compact (impl_Sorted.strs l) ++ List.replicate (l.length - (impl_Sorted.once l).length) [] := by
     have e4 : (impl_Sorted.once l).map (fun x => x.data.toList) = Lib.compact (impl_Sorted.strs l) := impl_Sorted.strs_back _; rw [impl_Sorted.strs, List.map_append, List.map_replicate, e4]
     rfl
    rw [e3]⟩
  have t3 := impl_Sorted.front t1 hle; rw [List.take_left' rfl] at t3
  exact ⟨rfl, t3, Below.grown (row := some g) (Below.refl _ _) t2 hb (fun k e => by injection e with e; omega)⟩
set_option maxHeartbeats 2000000 in
set_option maxRecDepth 100000 in
theorem impl_Sorted.clips (A : Option Addr) (n c : Nat) (hnc : n ≤ c) (w : World) : Calls Tryd.prog 88 #[.slice A n c] w fun e w' => e = .returned (.slice A n n) ∧ Drawn0 w w' := by
 go_enter Tryd.func88, Tryd.ntmps88
 go_wp2
 go_ret
 exact ⟨rfl, Drawn0.refl _⟩
theorem impl_Sorted.calls (A0 : Option Addr) (c0 : Nat) (l0 r : List ByteArray) (w : World) (a1 : Kd.C Kd.string w A0 l0.length l0) (a2 : l0.length ≤ c0) (h : impl_Sorted.f l0 = some r) :
  Calls Tryd.prog 44 #[.slice A0 l0.length c0] w fun e w' => ∃ a3 : Value, e = .returned (impl_Sorted.clip a3) ∧ Kd.R Kd.string 9 w' w.heap.size (fun _ => True) a3 r ∧ Below w.heap.size w w' := by
 have a4 := zA a1
 have a5 := zA a2
 have HB := zA (Below.refl w.heap.size w)
 clear a1 a2
 unfold impl_Sorted.f at h
 replace h := Option.bind_eq_some_iff.mp h
 obtain ⟨y, hy, h⟩ := h
 obtain rfl := Option.some.inj h
 clear h
 have HL := zA (show y.length < 4611686018427387904 by
  unfold slices_Clone_string_string.f at hy
  simp only [Option.bind_some] at hy
  split at hy
  ·rename_i hlt
   have := Option.some.inj hy
   subst this; rw [List.length_append]
   omega
  ·cases hy)
 have HY := zA hy
 clear hy
 go_enter Tryd.func44, Tryd.ntmps44
 go_wp2_with (first
  | (go_at_call 86; (with_reducible refine (slices_Clone_string_string.calls A0 c0 l0 y _ ?s1 a5.out HY.out).mono ?_); (case s1 => repeat (first | exact a4.out | (with_reducible refine Kd.C_alloc ?_ _) | (with_reducible refine Kd.C_drewN ?_ _) | (with_reducible refine Kd.C_drew ?_))); rintro e w1 ⟨v1, rfl, ho, hb⟩; have a0 := zA (below_step (zB) hb); have HO := zA (Kd.R_lower ho (below_size (zB))); clear HB; have HB := a0; clear a0 hb ho)
  | (go_at_call 87; (with_reducible refine (impl_Sorted.sort_R w.heap.size (fun _ => True) v1 y _ ?s1 ?s2 HL.out).mono ?_); (case s1 => (with_reducible repeat (first | apply Kd.R_alloc | apply Kd.R_drewN | apply Kd.R_drew)); exact HO.out); (case s2 => exact below_size (zB)); rintro e w2 ⟨rfl, ho, hb⟩; have a0 := zA ((show Below w.heap.size w _ from zB).trans hb); clear HB HO; have HB := a0; have HO := zA ho; clear a0 hb ho; obtain ⟨A1, c1, e1⟩ := Kd.R_slice HO.out; subst e1)
  | (go_at_call 89; (with_reducible refine (impl_Sorted.compact_R w.heap.size (fun _ => True) A1 _ c1 (impl_Sorted.rise y) _ ?s1 ?s2).mono ?_); (case s1 => (with_reducible repeat (first | apply Kd.R_alloc | apply Kd.R_drewN | apply Kd.R_drew)); exact HO.out); (case s2 => exact below_size (zB)); rintro e w3 ⟨rfl, ho, hb⟩; have a0 := zA ((show Below w.heap.size w _ from zB).trans hb); clear HB HO; have HB := a0; have HO := zA ho; clear a0 hb ho; have hle := (Kd.R_reads' HO.out).2.1)
  | (go_at_call 88; (with_reducible refine (impl_Sorted.clips A1 _ c1 hle _).mono ?_); rintro e w4 ⟨rfl, ⟨nd, rfl⟩⟩))
 go_ret
 exact ⟨.slice A1 (impl_Sorted.once (impl_Sorted.rise y)).length c1, rfl, zR HO.out, zB⟩
/-! ### laws_hasText: function 45 -/
def laws_hasText.l0 : Nat → List ByteArray → ByteArray → Int → Option (Bool)
 | 0, _, _, _ => none
 | k + 1, x0, x1, x5 => if x5 < (x0.length : Int) then (if 0 ≤ x5 then (if (rdOf ByteArray.empty x0 x5).toList = x1.toList then (some true) else (laws_hasText.l0 k x0 x1 (wrap64 (x5 + 1)))) else (none)) else (some false)
def laws_hasText.f (k : Nat) (l0 : List ByteArray) (a1 : ByteArray) : Option (Bool) := laws_hasText.l0 k l0 a1 0
theorem laws_hasText.calls (k : Nat) (A0 : Option Addr) (c0 : Nat) (l0 : List ByteArray) (a1 : ByteArray) (r : Bool) (w : World) (a5 : Kd.C Kd.string w A0 l0.length l0) (a6 : l0.length ≤ c0) (h : laws_hasText.f k l0 a1 = some r) :
  Calls Tryd.prog 45 #[.slice A0 l0.length c0, .string a1] w fun e w' => e = .returned (.bool r) ∧ Drawn0 w w' := by
 have a7 := zA a5
 have b4 := zA a6
 clear a5 a6
 unfold laws_hasText.f at h
 have H := h
 clear h
 have H' := zA H
 clear H
 go_enter Tryd.func45, Tryd.ntmps45
 go_wp2
 go_loopg [5] k (fun kq v5 w' => ∃ (a0 : Int), v5 = .int .i64 a0 ∧ Aside0 (laws_hasText.l0 kq l0 a1 a0 = some r) ∧ Aside0 (kq ≤ k) ∧ Drawn0 w w')
 case atStart => exact ⟨(0), zS, H', ⟨Nat.le_refl _⟩, by repeat (first | exact Drawn0.refl _ | apply Drawn0.step)⟩
 case round =>
  clear H'
  try clear p2
  obtain ⟨a0, rfl, HA, a8, ⟨m1, rfl⟩⟩ := hrel
  cases gk with
  | zero => exact absurd HA.out (by simp [laws_hasText.l0])
  | succ k1 =>
   have H := HA.out; clear HA; simp only [laws_hasText.l0] at H; replace H := zI0 H
   rcases H with ⟨a9, H⟩ | ⟨a9, H⟩
   ·replace H := zD0 H; obtain ⟨b5, H⟩ := H; replace H := zI1 H
    rcases H with ⟨c5, H⟩ | ⟨c5, H⟩
    ·have b0 := beq_iff_eq.mpr c5; have b1 := bne_eq_false_iff_eq.mpr c5; clear c5; obtain rfl := zm H; have a2 : 0 ≤ (a0 : Int) := zD; have a3 : a0 < (l0.length : Int) := zD; obtain ⟨b2, a4, b3⟩ := Kd.at_string a7.out a0 a2 a3; cases a4; replace a2 := eq_true a2; replace a3 := eq_true a3
     go_wp2
     go_ret
     exact ⟨by first | rfl | (simp; done) | (simp [*]; done) | (simp; rw [Bool.eq_iff_iff]; simp; done), by repeat (first | exact Drawn0.refl _ | apply Drawn0.step)⟩
    have b0 := beq_eq_false_iff_ne.mpr c5; have b1 := bne_iff_ne.mpr c5; have H' := zA H; clear H; have a2 : 0 ≤ (a0 : Int) := zD; have a3 : a0 < (l0.length : Int) := zD; obtain ⟨b2, a4, b3⟩ := Kd.at_string a7.out a0 a2 a3; cases a4; replace a2 := eq_true a2; replace a3 := eq_true a3
    go_wp2
    go_roundg k1
    case measure => have := a8.out; omega
    case rel => exact ⟨(wrap64 (a0 + 1)), zS, H', ⟨by have := a8.out; omega⟩, by repeat (first | exact Drawn0.refl _ | apply Drawn0.step)⟩
   obtain rfl := zm H
   go_wp2
   go_ret
   exact ⟨by first | rfl | (simp; done) | (simp [*]; done) | (simp; rw [Bool.eq_iff_iff]; simp; done), by repeat (first | exact Drawn0.refl _ | apply Drawn0.step)⟩
/-! ### spec_DrawJoin: function 46 -/
def spec_DrawJoin.f (k : Nat) (l0 : List Int) : Option (List ByteArray × ByteArray) := (spec_l1New.f k l0).bind fun a0 => ((spec_l1List.f k a0.1 a0.2.1 a0.2.2).bind fun a1 => ((spec_l1Str.f k a0.1 a1.2.1 a1.2.2 (([(⟨#[]⟩ : ByteArray), (⟨#[44]⟩ : ByteArray), (⟨#[32, 124, 124, 32]⟩ : ByteArray)] : List ByteArray))).bind fun a2 => (some (a1.1, a2.1))))
theorem spec_DrawJoin.calls (k : Nat) (A0 : Option Addr) (c0 : Nat) (l0 : List Int) (r1 : List ByteArray) (r2 : ByteArray) (w : World) (b0 : Kd.C (Kd.int .u8) w A0 l0.length l0) (b1 : l0.length ≤ c0) (h : spec_DrawJoin.f k l0 = some (r1, r2)) :
  Calls Tryd.prog 46 #[.slice A0 l0.length c0] w fun e w' => ∃ b2 : Value, e = .returned (.tuple #[b2, .string r2]) ∧ Kd.R Kd.string 9 w' w.heap.size (fun _ => True) b2 r1 ∧ Below w.heap.size w w' := by
 have c2 := zA b0
 have c3 := zA b1
 clear b0 b1
 have HB := zA (Below.refl w.heap.size w)
 unfold spec_DrawJoin.f at h
 have H := h
 clear h
 replace H := Option.bind_eq_some_iff.mp H
 obtain ⟨⟨a1, b3, b4⟩, b5, H⟩ := H
 try dsimp only at H
 have A2 := zA b5
 clear b5
 replace H := Option.bind_eq_some_iff.mp H
 obtain ⟨⟨b6, a6, a7⟩, b7, H⟩ := H
 try dsimp only at H
 have A3 := zA b7
 clear b7
 obtain ⟨a8, a9⟩ : ∃ y_ : List ByteArray, y_ = (([(⟨#[]⟩ : ByteArray), (⟨#[44]⟩ : ByteArray), (⟨#[32, 124, 124, 32]⟩ : ByteArray)] : List ByteArray)) := ⟨_, rfl⟩
 replace H : ((spec_l1Str.f k a1 a6 a7 a8).bind fun c4 => (some (b6, c4.1))) = some (r1, r2) := zY a9 H
 have b8 := zA a9
 clear a9
 replace H := Option.bind_eq_some_iff.mp H
 obtain ⟨⟨c5, c6, c7⟩, b9, H⟩ := H
 try dsimp only at H
 have A4 := zA b9
 clear b9
 simp only [zU] at H
 obtain ⟨rfl, rfl⟩ := H
 go_enter Tryd.func46, Tryd.ntmps46
 go_wp2_with (first | ((with_reducible refine zq 64 ?_); refine zg (some 6) Tryd.func64 #[.slice A0 l0.length c0] ?_; (with_reducible refine (spec_l1New.calls k _ _ l0 a1 b3 b4 w _ ?s1 ?s2 ?s3 A2.out).mono ?_); (case s1 => repeat (first | (with_reducible first | exact HB.out | apply below_alloc | apply pw_below_drewN | apply below_drew1) | exact HB.out)); (case s2 => exact c2.out); (case s3 => exact c3.out); rintro e w5 ⟨a2, rfl, hi, hb, c8⟩; refine ⟨_, rfl, ?_⟩; replace HB := zA (hb); have a0 := zA (hi); (try clear hb c8 hi)) | ((with_reducible refine zq 85 ?_); refine zg (some 8) Tryd.func85 #[.pointer (some ⟨a2, 0, none⟩)] ?_; (with_reducible refine (spec_l1List.calls k a2 a1 b3 b4 b6 a6 a7 w _ ?s1 ?s2 A3.out).mono ?_); (case s1 => repeat (first | (with_reducible first | exact a0.out | apply IsS113.alloc | apply IsS113.drewN | apply IsS113.drew | apply IsS113.set_1 | apply IsS113.set_2) | exact a0.out)); (case s2 => repeat (first | (with_reducible first | exact HB.out | apply below_alloc | apply pw_below_drewN | apply below_drew1 | refine below_set ?_ (IsS113.ge a0.out)) | exact HB.out)); rintro e w6 ⟨d2, rfl, c1, hi, hb, hk⟩; refine ⟨_, rfl, ?_⟩; have a3 := zA (Kd.R_lower c1 (below_size (zX HB.out (IsS113.ge a0.out)))); replace HB := zA (hb); replace a0 := zA (hi); (try clear hb hk hi c1)) | ((with_reducible refine gate_dst (N := 10) rfl ?_); refine Kd.R_lit Kd.string _ 9 ?hg (N := 10) ?hd (xs := ([(⟨#[]⟩ : ByteArray), (⟨#[44]⟩ : ByteArray), (⟨#[32, 124, 124, 32]⟩ : ByteArray)] : List ByteArray)) (inner := [.string (⟨#[]⟩ : ByteArray), .string (⟨#[44]⟩ : ByteArray), .string (⟨#[32, 124, 124, 32]⟩ : ByteArray)]) (ok := fun _ => True) ?hr ?hp (fun _ hk => hk) trivial (Below.refl _ _) (Nat.le_refl _) (by simp) ?_; (case hd => rfl); (case hg => rfl); (case hr => first | (go_simp; done) | (go_simp; rfl)); (case hp => exact (Reps.one (show Kd.M Kd.string _ _ _ (⟨#[]⟩ : ByteArray) [.string (⟨#[]⟩ : ByteArray)] from rfl) (Reps.one (show Kd.M Kd.string _ _ _ (⟨#[44]⟩ : ByteArray) [.string (⟨#[44]⟩ : ByteArray)] from rfl) (Reps.one (show Kd.M Kd.string _ _ _ (⟨#[32, 124, 124, 32]⟩ : ByteArray) [.string (⟨#[32, 124, 124, 32]⟩ : ByteArray)] from rfl) (Reps.none _ _))))); intro d3 w7 a4 hb hg_ hnew_; clear hg_ hnew_; (first | rw [← b8.out] at a4 | (simp only [Int.reduceToNat] at a4; rw [← b8.out] at a4)); have a5 := zA (Kd.R_lower (Kd.R_new' a4 (Kd.R_lt (zR a3.out))) (below_size (zX HB.out (IsS113.ge a0.out)))); replace a3 := zA (Kd.R_elder' (zR a3.out) (Kd.R_base a4) hb); replace HB := zA (below_step (zX HB.out (IsS113.ge a0.out)) hb); replace a0 := zA (IsS113.below (by repeat (first | (with_reducible first | exact a0.out | apply IsS113.alloc | apply IsS113.drewN | apply IsS113.drew | apply IsS113.set_1 | apply IsS113.set_2) | exact a0.out)) hb); clear hb a4; obtain ⟨c9, d0, d1⟩ := Kd.R_slice a5.out; subst d1) | ((with_reducible refine zq 65 ?_); refine zg (some 11) Tryd.func65 #[.pointer (some ⟨a2, 0, none⟩), .slice c9 a8.length d0] ?_; (with_reducible refine (spec_l1Str.calls k a2 a1 a6 a7 _ _ a8 c5 c6 c7 w _ ?s1 ?s2 ?s3 ?s4 ?s5 A4.out).mono ?_); (case s1 => repeat (first | (with_reducible first | exact a0.out | apply IsS113.alloc | apply IsS113.drewN | apply IsS113.drew | apply IsS113.set_1 | apply IsS113.set_2) | exact a0.out)); (case s2 => repeat (first | (with_reducible first | exact HB.out | apply below_alloc | apply pw_below_drewN | apply below_drew1 | refine below_set ?_ (IsS113.ge a0.out)) | exact HB.out)); (case s3 => repeat (first | exact (Kd.R_reads' a5.out).2.2 | (with_reducible refine Kd.C_alloc ?_ _) | (with_reducible refine Kd.C_drewN ?_ _) | (with_reducible refine Kd.C_drew ?_))); (case s4 => exact (Kd.R_reads' a5.out).2.1); (case s5 => exact far_slice (IsS113.own_ne a0.out a5.out (by decide))); rintro e d4 ⟨rfl, hi, hb, hk⟩; refine ⟨_, rfl, ?_⟩; replace a3 := zA (Kd.R_mono (Kd.R_keep (IsS113.apart (show IsS113 w _ a2 a1 a6 a7 from by repeat (first | (with_reducible first | exact a0.out | apply IsS113.alloc | apply IsS113.drewN | apply IsS113.drew | apply IsS113.set_1 | apply IsS113.set_2) | exact a0.out)) (zR a3.out) (by decide)) hk (fun _ h => h.2)) (fun _ h => h.1)); replace a5 := zA (Kd.R_mono (Kd.R_keep (IsS113.apart (show IsS113 w _ a2 a1 a6 a7 from by repeat (first | (with_reducible first | exact a0.out | apply IsS113.alloc | apply IsS113.drewN | apply IsS113.drew | apply IsS113.set_1 | apply IsS113.set_2) | exact a0.out)) (zR a5.out) (by decide)) hk (fun _ h => h.2)) (fun _ h => h.1)); replace HB := zA (hb); replace a0 := zA (hi); (try clear hb hk hi)))
 go_ret2
 exact ⟨_, zE, zR (Kd.R_mono a3.out (fun _ hk => trivial)), zX HB.out (IsS113.ge a0.out)⟩
/-! ### spec_DrawNumText: function 47 -/
def spec_DrawNumText.f (k : Nat) (l0 : List Int) : Option (Int) := (spec_l1New.f k l0).bind fun a0 => ((spec_l1Num.f k a0.1 a0.2.1 a0.2.2).bind fun a1 => (some a1.1))
theorem spec_DrawNumText.calls (k : Nat) (A0 : Option Addr) (c0 : Nat) (l0 : List Int) (r : Int) (w : World) (a1 : Kd.C (Kd.int .u8) w A0 l0.length l0) (a2 : l0.length ≤ c0) (h : spec_DrawNumText.f k l0 = some r) :
  Calls Tryd.prog 47 #[.slice A0 l0.length c0] w fun e w' => e = .returned (.int .i64 r) ∧ Below w.heap.size w w' := by
 have a9 := zA a1
 have b0 := zA a2
 clear a1 a2
 have HB := zA (Below.refl w.heap.size w)
 unfold spec_DrawNumText.f at h
 have H := h
 clear h
 replace H := Option.bind_eq_some_iff.mp H
 obtain ⟨⟨a3, a4, a5⟩, a6, H⟩ := H
 try dsimp only at H
 have A2 := zA a6
 clear a6
 replace H := Option.bind_eq_some_iff.mp H
 obtain ⟨⟨b1, b2, b3⟩, a7, H⟩ := H
 try dsimp only at H
 have A3 := zA a7
 clear a7
 obtain rfl := zm H
 go_enter Tryd.func47, Tryd.ntmps47
 go_wp2_with (first | ((with_reducible refine zq 64 ?_); refine zg (some 5) Tryd.func64 #[.slice A0 l0.length c0] ?_; (with_reducible refine (spec_l1New.calls k _ _ l0 a3 a4 a5 w _ ?s1 ?s2 ?s3 A2.out).mono ?_); (case s1 => repeat (first | (with_reducible first | exact HB.out | apply below_alloc | apply pw_below_drewN | apply below_drew1) | exact HB.out)); (case s2 => exact a9.out); (case s3 => exact b0.out); rintro e w4 ⟨a8, rfl, hi, hb, b4⟩; refine ⟨_, rfl, ?_⟩; replace HB := zA (hb); have a0 := zA (hi); (try clear hb b4 hi)) | ((with_reducible refine zq 81 ?_); refine zg (some 7) Tryd.func81 #[.pointer (some ⟨a8, 0, none⟩)] ?_; (with_reducible refine (spec_l1Num.calls k a8 a3 a4 a5 b1 b2 b3 w _ ?s1 ?s2 A3.out).mono ?_); (case s1 => repeat (first | (with_reducible first | exact a0.out | apply IsS113.alloc | apply IsS113.drewN | apply IsS113.drew | apply IsS113.set_1 | apply IsS113.set_2) | exact a0.out)); (case s2 => repeat (first | (with_reducible first | exact HB.out | apply below_alloc | apply pw_below_drewN | apply below_drew1 | refine below_set ?_ (IsS113.ge a0.out)) | exact HB.out)); rintro e w5 ⟨rfl, hi, hb, hk⟩; refine ⟨_, rfl, ?_⟩; replace HB := zA (hb); replace a0 := zA (hi); (try clear hb hk hi)))
 go_ret
 exact ⟨zE, zX HB.out (IsS113.ge a0.out)⟩
/-! ### strings_Join: function 90 -/
def strings_Join.f (l0 : List ByteArray) (a1 : ByteArray) : Option ByteArray := if (Lib.join (l0.map (·.data.toList)) a1.data.toList).length ≤ 140737488355328 ∧ l0.length ≤ 140737488355328 then some ⟨(Lib.join (l0.map (·.data.toList)) a1.data.toList).toArray⟩ else none
theorem strings_Join.calls (A0 : Option Addr) (c0 : Nat) (l0 : List ByteArray) (a1 r : ByteArray) (w : World) (a0 : Kd.C Kd.string w A0 l0.length l0) (a2 : l0.length ≤ c0) (h : strings_Join.f l0 a1 = some r) :
  Calls Tryd.prog 90 #[.slice A0 l0.length c0, .string a1] w fun e w' => e = .returned (.string r) ∧ Below w.heap.size w w' := by
 unfold strings_Join.f at h
 split at h
 ·rename_i hs
  obtain rfl := Option.some.inj h
  rcases l0 with _ | ⟨x, l⟩
  ·refine (Tryd.strings_Join_none A0 c0 a1 w).mono ?_
   rintro e w' ⟨rfl, rfl⟩
   exact ⟨rfl, Below.refl _ _⟩
  ·obtain ⟨b, o, rfl, hcell⟩ := Lb.C_string_plain a0 (by simp)
   exact Tryd.strings_Join b o c0 (x :: l) a1 w hcell (World.block_lt_of_cell? w _ (hcell 0 x rfl)) hs.2 a2 hs.1
 ·cases h
/-! ### impl_Join: function 48 -/
def impl_Join.f (l0 : List ByteArray) (a1 : ByteArray) : Option (ByteArray) := (strings_Join.f l0 a1).bind fun a0 => (some a0)
theorem impl_Join.calls (A0 : Option Addr) (c0 : Nat) (l0 : List ByteArray) (a1 r : ByteArray) (w : World) (a0 : Kd.C Kd.string w A0 l0.length l0) (a2 : l0.length ≤ c0) (h : impl_Join.f l0 a1 = some r) :
  Calls Tryd.prog 48 #[.slice A0 l0.length c0, .string a1] w fun e w' => e = .returned (.string r) ∧ Below w.heap.size w w' := by
 have a4 := zA a0
 have a5 := zA a2
 clear a0 a2
 have HB := zA (Below.refl w.heap.size w)
 unfold impl_Join.f at h
 have H := h
 clear h
 replace H := Option.bind_eq_some_iff.mp H
 obtain ⟨a6, a3, H⟩ := H
 try dsimp only at H
 have A3 := zA a3
 clear a3
 obtain rfl := zm H
 go_enter Tryd.func48, Tryd.ntmps48
 go_wp2_with (first | ((with_reducible refine zq 90 ?_); refine zg (some 7) Tryd.func90 #[.slice A0 l0.length c0, .string a1] ?_; (with_reducible refine (strings_Join.calls _ _ l0 a1 a6 _ ?s1 ?s2 A3.out).mono ?_); (case s1 => repeat (first | exact a4.out | (with_reducible refine Kd.C_alloc ?_ _) | (with_reducible refine Kd.C_drewN ?_ _) | (with_reducible refine Kd.C_drew ?_))); (case s2 => exact a5.out); rintro e w4 ⟨rfl, hb⟩; refine ⟨_, rfl, ?_⟩; replace HB := zA (below_step (zB) hb); (try clear hb)))
 go_ret
 exact ⟨zE, zB⟩
/-! ### strings_Split: function 73 -/
def strings_Split.f (a0 a1 : ByteArray) : Option (List ByteArray) := if a0.size < 4294967281 ∧ 1 ≤ a1.size then some (Lib.splitB a1 0 (Lib.countB a0 a1) a0) else none
theorem strings_Split.calls (a0 a1 : ByteArray) (r : List ByteArray) (w : World) (hG : GW w) (h : strings_Split.f a0 a1 = some r) :
  Calls Tryd.prog 73 #[.string a0, .string a1] w fun e w' => ∃ a2 : Value, e = .returned (a2) ∧ Kd.R Kd.string 9 w' w.heap.size (fun _ => True) a2 r ∧ Below w.heap.size w w' := by
 unfold strings_Split.f at h
 split at h
 ·rename_i hs
  obtain rfl := Option.some.inj h; obtain ⟨m, hm⟩ := hG.maxLen
  refine (Tryd.strings_Split a0 a1 m w hs.1 hm hs.2).mono ?_
  rintro e w' ⟨rfl, rfl⟩
  have hl := Lib.splitB_all a1 hs.2 0 _ a0 rfl; have hle := Lib.countB_le a1 hs.2 a0.size a0 (Nat.le_refl _)
  exact ⟨_, rfl, Lb.split_R w 9 _ _ hl (by omega), below_alloc (Below.refl _ _) _⟩
 ·cases h
/-! ### impl_Split: function 49 -/
def impl_Split.f (a0 : ByteArray) (a1 : Int) : Option (List ByteArray) := (strings_Split.f a0 (strOfNums (([a1] : List Int)))).bind fun a2 => (some a2)
theorem impl_Split.calls (a0 : ByteArray) (a1 : Int) (r : List ByteArray) (w : World) (hG : GW w) (h : impl_Split.f a0 a1 = some r) :
  Calls Tryd.prog 49 #[.string a0, .int .u8 a1] w fun e w' => ∃ a7 : Value, e = .returned (a7) ∧ Kd.R Kd.string 9 w' w.heap.size (fun _ => True) a7 r ∧ Below w.heap.size w w' := by
 have HG := zA hG
 clear hG
 have HB := zA (Below.refl w.heap.size w)
 unfold impl_Split.f at h
 have H := h
 clear h
 obtain ⟨a3, a4⟩ : ∃ y_ : List Int, y_ = (([a1] : List Int)) := ⟨_, rfl⟩
 replace H : ((strings_Split.f a0 (strOfNums a3)).bind fun a5 => (some a5)) = some r := zY a4 H
 have a8 := zA a4
 clear a4
 replace H := Option.bind_eq_some_iff.mp H
 obtain ⟨a5, a9, H⟩ := H
 try dsimp only at H
 have A3 := zA a9
 clear a9
 obtain rfl := zm H
 go_enter Tryd.func49, Tryd.ntmps49
 go_wp2_with (first | ((with_reducible refine gate_dst (N := 7) rfl ?_); refine Kd.R_lit (Kd.int .u8) _ 5 ?hg (N := 7) ?hd (xs := ([a1] : List Int)) (inner := [.int .u8 a1]) (ok := fun _ => True) ?hr ?hp (fun _ hk => hk) trivial (Below.refl _ _) (Nat.le_refl _) (by simp) ?_; (case hd => rfl); (case hg => rfl); (case hr => first | (go_simp; done) | (go_simp; rfl)); (case hp => exact (Reps.one (show Kd.M (Kd.int .u8) _ _ _ a1 [.int .u8 a1] from rfl) (Reps.none _ _))); intro b2 w4 a2 hb hg_ hnew_; clear hg_ hnew_; (first | rw [← a8.out] at a2 | (simp only [Int.reduceToNat] at a2; rw [← a8.out] at a2)); have a6 := zA (Kd.R_lower a2 (below_size (zB))); replace HB := zA (below_step (zB) hb); clear hb a2; have b3 := own_string (P := Tryd.prog) Tryd.underlying36 Tryd.underlying5 Tryd.underlying9 (Kd.own_of_R a6.out)) | ((with_reducible refine zq 73 ?_); refine zg (some 9) Tryd.func73 #[.string a0, .string (strOfNums a3)] ?_; (with_reducible refine (strings_Split.calls a0 (strOfNums a3) a5 _ ?s1 A3.out).mono ?_); (case s1 => exact GW.below HG.out (zB)); rintro e w7 ⟨b4, rfl, b0, hb⟩; refine ⟨_, rfl, ?_⟩; replace a6 := zr a6 hb; have b1 := zA (Kd.R_lower b0 (below_size (zB))); replace HB := zA (below_step (zB) hb); (try clear hb b0)))
 go_ret
 exact ⟨_, zE, zR b1.out, zB⟩
end Go.Proofs.YtbaeljcnbkeipaaDoor.PGB
