/- The walks of the functions that these laws reach, and what each comes to: printed by this session's program. -/
import Derived.Test.YtpcdhoeoefoeoaaGreatDoorZGEPGEx0
import Derived.Test.YtpcdhoeoefoeoaaGreatDoorZGEPGEx22
import Derived.Test.YtpcdhoeoefoeoaaGreatDoorZGESays
import Derived.Test.YtpcdhoeoefoeoaaGreatDoorZGERegs
import Derived.Test.YtpcdhoeoefoeoaaGreatDoorZGEPGEx1
import Derived.Test.YtpcdhoeoefoeoaaGreatDoorZGEPGEx15
namespace Go.Proofs.YtpcdhoeoefoeoaaGreatDoor.PGE
open Go.RowKit YtpcdhoeoefoeoaaGreatDoorW.PrintWords YtpcdhoeoefoeoaaGreatDoorW.PrintLast YtpcdhoeoefoeoaaGreatDoorW.PrintMore
attribute [local go_sem high] Mine.str_gtr Mine.str_leq Mine.str_geq
attribute [local go_sem] max2_int min2_int max_two min_two max_three min_three max_four min_four   -- for this text's walks alone
set_option linter.unusedVariables false
set_option maxHeartbeats 8000000
set_option maxRecDepth 100000
set_option linter.unusedSimpArgs false
/-! ### impl_PacksOk: function 29 -/
mutual
def impl_PacksOk.l0 : Nat → List (S45) → List (S45) → Int → Int → Option (Bool)
 | 0, _, _, _, _ => none
 | k + 1, x0, x7, x8, x9 => if x9 < x8 then (impl_PacksOk.j1 k x0 x7 x8 x9) else (some (decide ((x0.length : Int) ≤ 6)))
def impl_PacksOk.j1 : Nat → List (S45) → List (S45) → Int → Int → Option (Bool)
 | 0, _, _, _, _ => none
 | k + 1, x0, x7, x8, x9 => if 0 ≤ x9 then (if x9 < (x7.length : Int) then ((impl_PackOk.f k ((rd_T45 x7 x9).f0) ((rd_T45 x7 x9).f1) ((rd_T45 x7 x9).f2) ((rd_T45 x7 x9).f3)).bind fun a7 => (if a7 = true then (if x9 > 0 then (if 0 ≤ (wrap64 (x9 - 1)) then (if (wrap64 (x9 - 1)) < (x0.length : Int) then (impl_PacksOk.j2 k x0 x7 x8 x9 (!(Op.bytesLess (((rd_T45 x0 (wrap64 (x9 - 1))).f0).toList) (((rd_T45 x7 x9).f0).toList))) ((rd_T45 x7 x9).f0) ((rd_T45 x7 x9).f1) ((rd_T45 x7 x9).f2) ((rd_T45 x7 x9).f3)) else (none)) else (none)) else (impl_PacksOk.j2 k x0 x7 x8 x9 false ((rd_T45 x7 x9).f0) ((rd_T45 x7 x9).f1) ((rd_T45 x7 x9).f2) ((rd_T45 x7 x9).f3))) else (impl_PacksOk.j2 k x0 x7 x8 x9 true ((rd_T45 x7 x9).f0) ((rd_T45 x7 x9).f1) ((rd_T45 x7 x9).f2) ((rd_T45 x7 x9).f3)))) else (none)) else (none)
def impl_PacksOk.j2 : Nat → List (S45) → List (S45) → Int → Int → Bool → ByteArray → List ByteArray → List (S30) → List (S93) → Option (Bool)
 | 0, _, _, _, _, _, _, _, _, _ => none
 | k + 1, x0, x7, x8, x9, a8, a1, a0, a3, a4 => if a8 = true then (some false) else (impl_PacksOk.j3 k x0 x7 x8 x9 a1 a0 a3 a4)
def impl_PacksOk.j3 : Nat → List (S45) → List (S45) → Int → Int → ByteArray → List ByteArray → List (S30) → List (S93) → Option (Bool)
 | 0, _, _, _, _, _, _, _, _ => none
 | k + 1, x0, x7, x8, x9, a1, a0, a3, a4 => impl_PacksOk.l1 k x0 x7 x8 x9 a0 (a0.length : Int) 0 a1 a0 a3 a4
def impl_PacksOk.l1 : Nat → List (S45) → List (S45) → Int → Int → List ByteArray → Int → Int → ByteArray → List ByteArray → List (S30) → List (S93) → Option (Bool)
 | 0, _, _, _, _, _, _, _, _, _, _, _ => none
 | k + 1, x0, x7, x8, x9, a5, a6, a2, a1, a0, a3, a4 => if a2 < a6 then (if 0 ≤ a2 then (if a2 < (a5.length : Int) then (if (rdOf ByteArray.empty a5 a2).toList = a1.toList then (some false) else ((impl_FindPack.f x0 (rdOf ByteArray.empty a5 a2)).bind fun a9 => (if a9 < 0 then (some false) else (impl_PacksOk.l1 k x0 x7 x8 x9 a5 a6 (wrap64 (a2 + 1)) a1 a0 a3 a4)))) else (none)) else (none)) else (impl_PacksOk.l0 k x0 x7 x8 (wrap64 (x9 + 1)))
end
def impl_PacksOk.f (k : Nat) (l0 : List (S45)) : Option (Bool) := impl_PacksOk.l0 k l0 l0 (l0.length : Int) 0
def impl_PacksOk.T4 : Bool × List (List Nat × List Nat) := (true, [([], []), ([0], [0]), ([1], [1]), ([2, 1], [2]), ([3], [3]), ([4, 3], [3, 4]), ([5, 3, 3], [3, 5]), ([6], [6]), ([7, 6], [6, 7]), ([6], [6]), ([6], [6]), ([10, 6], [6, 10]), ([9, 11, 6], [6, 9, 11]), ([12, 6], [6, 12]), ([13, 6], [6, 13]), ([8, 14, 6], [6, 8, 14]), ([6, 15, 3], [3, 6, 15]), ([3, 16], [3, 16])])
def impl_PacksOk.B4 : List Nat := [0, 1, 3, 7, 15, 31, 63, 127, 255, 127, 127, 1151, 3711, 7807, 15999, 32767, 65535, 131071]
theorem impl_PacksOk.tab4 : rtab .any (opsOf Tryz.f29 4) = impl_PacksOk.T4 := by kernel_rfl
theorem impl_PacksOk.bits4 : waitsOk impl_PacksOk.T4.2 impl_PacksOk.B4 = true := by kernel_rfl
theorem impl_PacksOk.calls (k : Nat) (A0 : Option Addr) (c0 : Nat) (l0 : List (S45)) (r : Bool) (w : World) (h3 : Kd.C k45 w A0 l0.length l0) (h4 : l0.length ≤ c0) (hG : GW w) (h : impl_PacksOk.f k l0 = some r) :
  Calls Tryz.prog 29 #[.slice A0 l0.length c0] w fun e w' => e = .returned (.bool r) ∧ Below w.heap.size w w' := by
 have n1 := Tryz.underlying45
 have e5 := zA h3
 have h5 := zA h4
 clear h3 h4
 have HG := zA hG
 clear hG
 have HB := zA (Below.refl w.heap.size w)
 unfold impl_PacksOk.f at h
 have H := h
 clear h
 have H' := zA H
 clear H
 go_enter Tryz.func29, Tryz.ntmps29
 go_wp2
 go_loopg [9] k (fun kq v9 w' => ∃ (a0 : Int), v9 = .int .i64 a0 ∧ Aside0 (impl_PacksOk.l0 kq l0 l0 (l0.length : Int) a0 = some r) ∧ Aside0 (kq ≤ k) ∧ Aside0 (Below w.heap.size w w'))
 case atStart => exact ⟨(0), zS, H', ⟨Nat.le_refl _⟩, ⟨zB⟩⟩
 case round =>
  clear H'; obtain ⟨a0, rfl, HA, b3, HB⟩ := hrel
  cases gk with
  | zero => exact absurd HA.out (by simp [impl_PacksOk.l0])
  | succ k1 =>
   have H := HA.out; clear HA; simp only [impl_PacksOk.l0] at H; have e8 := zA H; clear H
   go_upto_if 10 with (fail)
   go_cut [] (fun wc => ∃ (kq : Nat), Aside0 (impl_PacksOk.j1 kq l0 l0 (l0.length : Int) a0 = some r) ∧ Aside0 (kq ≤ k1) ∧ Aside0 (Below w.heap.size w wc))
   case first =>
    have H := e8.out; clear e8; replace H := zI0 H
    rcases H with ⟨b4, H⟩ | ⟨b4, H⟩
    ·(first | rw [b4] | (simp only [i64_w, i32_w]; rw [b4]) | skip)
     have H' := zA H; clear H
     go_wp2
     go_meet
     case rel => exact ⟨_, (by first | exact H' | (subst_vars; exact H')), ⟨by have := b3.out; first | omega | exact Nat.le_refl _⟩, ⟨zB⟩⟩
    (first | rw [b4] | (simp only [i64_w, i32_w]; rw [b4]) | skip)
    obtain rfl := zm H
    go_wp2
    go_ret
    exact ⟨zE, zB⟩
   case rest =>
    clear e8
    try clear c2
    try clear p2
    try clear c3
    try clear b4
    obtain ⟨kq, HA, b5, HB⟩ := hcut
    cases kq with
    | zero => exact absurd HA.out (by simp [impl_PacksOk.j1])
    | succ d7 =>
     have H := HA.out; clear HA; simp only [impl_PacksOk.j1] at H; replace H := zD0 H; obtain ⟨e9, H⟩ := H; replace H := zD0 H; obtain ⟨f4, H⟩ := H; have f5 := zA H; clear H; have d1 : 0 ≤ (a0 : Int) := zD; have d2 : a0 < (l0.length : Int) := zD; obtain ⟨b6, a3, a4, a6, a7, a8, a9, k0, d8, d9, e0, e1, h6, h7, h8, h9, i0, i1⟩ := at_T45 e5.out a0 d1 d2; cases k0; replace d8 := zx HB d8; replace d9 := zx HB d9; replace e0 := zx HB e0; replace e1 := zx HB e1; have d3 := zA h7; have f6 := zA h6; clear h7 h6; have f7 := zA h9; have f8 := zA h8; clear h9 h8; have f9 := zA i1; have g0 := zA i0; clear i1 i0; replace d1 := eq_true d1; replace d2 := eq_true d2
     go_upto_region 4 with (first | ((with_reducible refine zd 4 ?_); refine ze 4 45 #[.string (⟨#[]⟩ : ByteArray), .slice none 0 0, .slice none 0 0, .slice none 0 0] ?_; intro a2 hg w7 hbox hb; have a1 := zA (hbox); have n2 := zi HB hg; have n3 := zi HB hg; replace HB := zA (below_step (zB) hb); clear hb hbox hg; obtain ⟨g1, g2, g3, g4, g5, g6, g7, g8⟩ := ze4 a1.out))
     (try simp only [Act.put, zT])
     go_cut [31] (fun k2 wc => ∃ (kq : Nat) (g9 : Bool), k2 = .bool g9 ∧ Aside0 (impl_PacksOk.j2 kq l0 l0 (l0.length : Int) a0 g9 ((rd_T45 l0 a0).f0) ((rd_T45 l0 a0).f1) ((rd_T45 l0 a0).f2) ((rd_T45 l0 a0).f3) = some r) ∧ Aside0 (kq ≤ d7) ∧ Aside0 (wc.heap[a2]? = some (.cells #[.string ((rd_T45 l0 a0).f0), (.slice a3 ((rd_T45 l0 a0).f1).length a4), (.slice a6 ((rd_T45 l0 a0).f2).length a7), (.slice a8 ((rd_T45 l0 a0).f3).length a9)] 45 (0, 0))) ∧ Aside0 (Below w.heap.size w wc))
     case first =>
      have H := f5.out; clear f5; replace H := Option.bind_eq_some_iff.mp H; obtain ⟨n4, i2, H⟩ := H
      try dsimp only at H
      have A9 := zA i2; clear i2; replace H := zB0 H
      rcases H with ⟨rfl, H⟩ | ⟨rfl, H⟩
      ·replace H := zI1 H
       rcases H with ⟨b7, H⟩ | ⟨b7, H⟩
       ·have b8 : decide (0 < a0) = true := decide_eq_true b7; clear b7
        (first | rw [b8] | (simp only [i64_w, i32_w]; rw [b8]) | skip)
        obtain ⟨a5, e2⟩ : ∃ j_ : Int, (wrap64 (a0 - 1)) = j_ := ⟨_, rfl⟩
        replace H : (if 0 ≤ (a5) then (if (a5) < (l0.length : Int) then (impl_PacksOk.j2 d7 l0 l0 (l0.length : Int) a0 (!(Op.bytesLess (((rd_T45 l0 (a5)).f0).toList) (((rd_T45 l0 a0).f0).toList))) ((rd_T45 l0 a0).f0) ((rd_T45 l0 a0).f1) ((rd_T45 l0 a0).f2) ((rd_T45 l0 a0).f3)) else (none)) else (none)) = some r := by first | (rw [e2] at H; exact H) | (simp only [e2] at H ⊢; exact H)
        (try rw [e2] at A9)
        have hji12w : (IntKind.i64.wrap (a0 - 1)) = a5 := (i64_w _).trans e2; replace H := zD0 H; obtain ⟨h0, H⟩ := H; replace H := zD0 H; obtain ⟨h1, H⟩ := H; have H' := zA H; clear H
        try go_wp2
        generalize hW_ : ((((w7.setCell ⟨a2, 0, none⟩ (.string ((rd_T45 l0 a0).f0))).setCell ⟨a2, 1, none⟩ (.slice a3 ((rd_T45 l0 a0).f1).length a4)).setCell ⟨a2, 2, none⟩ (.slice a6 ((rd_T45 l0 a0).f2).length a7)).setCell ⟨a2, 3, none⟩ (.slice a8 ((rd_T45 l0 a0).f3).length a9)) = i3; replace a1 : Aside0 (i3.heap[a2]? = some (.cells #[.string ((rd_T45 l0 a0).f0), .slice a3 ((rd_T45 l0 a0).f1).length a4, .slice a6 ((rd_T45 l0 a0).f2).length a7, .slice a8 ((rd_T45 l0 a0).f3).length a9] 45 (0, 0))) := ⟨by subst hW_; (with_reducible repeat (first | refine blk_drewN ?_ _ | refine blk_drew ?_ | refine blk_alloc ?_ _)); refine blk_put (cs := #[.string ((rd_T45 l0 a0).f0), .slice a3 ((rd_T45 l0 a0).f1).length a4, .slice a6 ((rd_T45 l0 a0).f2).length a7, .slice none 0 0]) ?_ 3 _ rfl; (with_reducible repeat (first | refine blk_drewN ?_ _ | refine blk_drew ?_ | refine blk_alloc ?_ _)); refine blk_put (cs := #[.string ((rd_T45 l0 a0).f0), .slice a3 ((rd_T45 l0 a0).f1).length a4, .slice none 0 0, .slice none 0 0]) ?_ 2 _ rfl; (with_reducible repeat (first | refine blk_drewN ?_ _ | refine blk_drew ?_ | refine blk_alloc ?_ _)); refine blk_put (cs := #[.string ((rd_T45 l0 a0).f0), .slice none 0 0, .slice none 0 0, .slice none 0 0]) ?_ 1 _ rfl; (with_reducible repeat (first | refine blk_drewN ?_ _ | refine blk_drew ?_ | refine blk_alloc ?_ _)); refine blk_put (cs := #[.string (⟨#[]⟩ : ByteArray), .slice none 0 0, .slice none 0 0, .slice none 0 0]) ?_ 0 _ rfl; (with_reducible repeat (first | refine blk_drewN ?_ _ | refine blk_drew ?_ | refine blk_alloc ?_ _)); exact a1.out⟩; replace HB := zA (zh2 hW_.symm (zW HB.out)); clear hW_; replace a1 := zA (blk_drew a1.out); replace HB := zA (below_drew1 HB.out); have d4 : 0 ≤ ((a5) : Int) := zD; have d5 : (a5) < (l0.length : Int) := zD; obtain ⟨k3, k4, k6, k7, k8, k9, l2, l3, c6, c8, c9, d0, i4, i5, i6, i7, i8, i9⟩ := at_T45 e5.out (a5) d4 d5; have n5 := d0; have n6 := c9; have n7 := c8; have n8 := c6; obtain rfl : b6 = k3 := (by injection l3); replace c6 := zx HB c6; replace c8 := zx HB c8; replace c9 := zx HB c9; replace d0 := zx HB d0; have l4 := zA i5; have n9 := zA i4; clear i5 i4; have l5 := zA i7; have o0 := zA i6; clear i7 i6; have l6 := zA i9; have o1 := zA i8; clear i9 i8; replace d4 := eq_true d4; replace d5 := eq_true d5
        refine start_ (n := 18) (S := fun w' => w'.cell? ⟨a2, 0, none⟩ = some (.string ((rd_T45 l0 a0).f0)) ∧ w'.cell? ⟨a2, 1, none⟩ = some (.slice a3 ((rd_T45 l0 a0).f1).length a4) ∧ w'.cell? ⟨a2, 2, none⟩ = some (.slice a6 ((rd_T45 l0 a0).f2).length a7) ∧ w'.cell? ⟨a2, 3, none⟩ = some (.slice a8 ((rd_T45 l0 a0).f3).length a9) ∧ w'.cell? (b6.add (((a5)).toNat * 4)) = some (.string ((rd_T45 l0 (a5)).f0)) ∧ w'.cell? ⟨(b6.add (((a5)).toNat * 4)).block, (b6.add (((a5)).toNat * 4)).off + 1, none⟩ = some (.slice k4 ((rd_T45 l0 (a5)).f1).length k6) ∧ w'.cell? ⟨(b6.add (((a5)).toNat * 4)).block, (b6.add (((a5)).toNat * 4)).off + 2, none⟩ = some (.slice k7 ((rd_T45 l0 (a5)).f2).length k8) ∧ w'.cell? ⟨(b6.add (((a5)).toNat * 4)).block, (b6.add (((a5)).toNat * 4)).off + 3, none⟩ = some (.slice k9 ((rd_T45 l0 (a5)).f3).length l2)) (ds := []) (Array.replicate 18 false) (by kernel_rfl) rfl rfl zO fun hHeld => ?_; refine with_tabW impl_PacksOk.tab4 impl_PacksOk.bits4 (fun HT_ HW_ => ?_)
        generalize i3.drew = o2 at a1 HB l4 l5 l6 c6 c8 c9 d0 hHeld ⊢; refine zt 0 14 ?_
        refine zo 1 (some 15) fun K hK => ?_
        refine goes_ Tryz.func19 (by kernel_rfl) rfl #[.agg #[.string ((rd_T45 l0 a0).f0), .slice a3 ((rd_T45 l0 a0).f1).length a4, .slice a6 ((rd_T45 l0 a0).f2).length a7, .slice a8 ((rd_T45 l0 a0).f3).length a9]] (by rfl) rfl rfl zM ?_
        with_reducible refine (impl_PackOk.calls d7 ((rd_T45 l0 a0).f0) _ _ ((rd_T45 l0 a0).f1) _ _ ((rd_T45 l0 a0).f2) _ _ ((rd_T45 l0 a0).f3) true _ ?s1 ?s2 ?s3 ?s4 ?s5 ?s6 ?s7 A9.out).mono ?_
        (case s1 => exact zC (Kd.C_below d3.out HB.out))
        (case s2 => exact f6.out)
        (case s3 => exact zC (Kd.C_below f7.out HB.out))
        (case s4 => exact f8.out)
        (case s5 => exact zC (Kd.C_below f9.out HB.out))
        (case s6 => exact g0.out)
        (case s7 => exact GW.below HG.out (zW HB.out))
        rintro e o3 ⟨rfl, hb⟩
        refine ⟨_, rfl, ?_⟩
        replace a1 := zb a1 hb; replace HB := zh HB hb
        (try clear hb)
        refine hK.out _ _ zO fun hHeld => ?_
        clear hK K; refine zn ?_; refine zp 2 16 ?_; refine zp 3 17 ?_; refine zp 4 18 ?_; refine zp 5 19 ?_; refine zp 6 20 ?_; refine zp 7 21 ?_; refine zp 9 23 ?_; refine zp 10 24 ?_; refine zp 11 25 ?_; refine zp 12 26 ?_; refine zp 13 27 ?_; refine zt 8 22 ?_; refine zt 14 28 ?_; refine zp 15 29 ?_; refine zp 16 30 ?_; refine zp 17 31 ?_
        refine done_ (done_of HT_.out (by kernel_rfl)) ?_
        try go_wp2
        go_meet
        case rel => exact ⟨_, (!(Op.bytesLess (((rd_T45 l0 (a5)).f0).toList) (((rd_T45 l0 a0).f0).toList))), (by first | rfl | (simp; done) | (simp only [← e2] <;> (first | rfl | simp)) | (simp [*]; done)), (by first | exact H' | (subst_vars; exact H')), ⟨by have := b3.out; have := b5.out; first | omega | exact Nat.le_refl _⟩, ⟨zK a1.out⟩, ⟨zW HB.out⟩⟩
       have b8 : decide (0 < a0) = false := decide_eq_false b7; clear b7
       (first | rw [b8] | (simp only [i64_w, i32_w]; rw [b8]) | skip)
       have H' := zA H; clear H
       try go_wp2
       generalize hW_ : ((((w7.setCell ⟨a2, 0, none⟩ (.string ((rd_T45 l0 a0).f0))).setCell ⟨a2, 1, none⟩ (.slice a3 ((rd_T45 l0 a0).f1).length a4)).setCell ⟨a2, 2, none⟩ (.slice a6 ((rd_T45 l0 a0).f2).length a7)).setCell ⟨a2, 3, none⟩ (.slice a8 ((rd_T45 l0 a0).f3).length a9)) = j0; replace a1 : Aside0 (j0.heap[a2]? = some (.cells #[.string ((rd_T45 l0 a0).f0), .slice a3 ((rd_T45 l0 a0).f1).length a4, .slice a6 ((rd_T45 l0 a0).f2).length a7, .slice a8 ((rd_T45 l0 a0).f3).length a9] 45 (0, 0))) := ⟨by subst hW_; (with_reducible repeat (first | refine blk_drewN ?_ _ | refine blk_drew ?_ | refine blk_alloc ?_ _)); refine blk_put (cs := #[.string ((rd_T45 l0 a0).f0), .slice a3 ((rd_T45 l0 a0).f1).length a4, .slice a6 ((rd_T45 l0 a0).f2).length a7, .slice none 0 0]) ?_ 3 _ rfl; (with_reducible repeat (first | refine blk_drewN ?_ _ | refine blk_drew ?_ | refine blk_alloc ?_ _)); refine blk_put (cs := #[.string ((rd_T45 l0 a0).f0), .slice a3 ((rd_T45 l0 a0).f1).length a4, .slice none 0 0, .slice none 0 0]) ?_ 2 _ rfl; (with_reducible repeat (first | refine blk_drewN ?_ _ | refine blk_drew ?_ | refine blk_alloc ?_ _)); refine blk_put (cs := #[.string ((rd_T45 l0 a0).f0), .slice none 0 0, .slice none 0 0, .slice none 0 0]) ?_ 1 _ rfl; (with_reducible repeat (first | refine blk_drewN ?_ _ | refine blk_drew ?_ | refine blk_alloc ?_ _)); refine blk_put (cs := #[.string (⟨#[]⟩ : ByteArray), .slice none 0 0, .slice none 0 0, .slice none 0 0]) ?_ 0 _ rfl; (with_reducible repeat (first | refine blk_drewN ?_ _ | refine blk_drew ?_ | refine blk_alloc ?_ _)); exact a1.out⟩; replace HB := zA (zh2 hW_.symm (zW HB.out)); clear hW_; replace a1 := zA (blk_drew a1.out); replace HB := zA (below_drew1 HB.out)
       refine start_ (n := 18) (S := fun w' => w'.cell? ⟨a2, 0, none⟩ = some (.string ((rd_T45 l0 a0).f0)) ∧ w'.cell? ⟨a2, 1, none⟩ = some (.slice a3 ((rd_T45 l0 a0).f1).length a4) ∧ w'.cell? ⟨a2, 2, none⟩ = some (.slice a6 ((rd_T45 l0 a0).f2).length a7) ∧ w'.cell? ⟨a2, 3, none⟩ = some (.slice a8 ((rd_T45 l0 a0).f3).length a9)) (ds := []) (Array.replicate 18 false) (by kernel_rfl) rfl rfl zO fun hHeld => ?_; refine with_tabW impl_PacksOk.tab4 impl_PacksOk.bits4 (fun HT_ HW_ => ?_)
       generalize j0.drew = o4 at a1 HB hHeld ⊢; refine zt 0 14 ?_
       refine zo 1 (some 15) fun K hK => ?_
       refine goes_ Tryz.func19 (by kernel_rfl) rfl #[.agg #[.string ((rd_T45 l0 a0).f0), .slice a3 ((rd_T45 l0 a0).f1).length a4, .slice a6 ((rd_T45 l0 a0).f2).length a7, .slice a8 ((rd_T45 l0 a0).f3).length a9]] (by rfl) rfl rfl zM ?_
       with_reducible refine (impl_PackOk.calls d7 ((rd_T45 l0 a0).f0) _ _ ((rd_T45 l0 a0).f1) _ _ ((rd_T45 l0 a0).f2) _ _ ((rd_T45 l0 a0).f3) true _ ?s1 ?s2 ?s3 ?s4 ?s5 ?s6 ?s7 A9.out).mono ?_
       (case s1 => exact zC (Kd.C_below d3.out HB.out))
       (case s2 => exact f6.out)
       (case s3 => exact zC (Kd.C_below f7.out HB.out))
       (case s4 => exact f8.out)
       (case s5 => exact zC (Kd.C_below f9.out HB.out))
       (case s6 => exact g0.out)
       (case s7 => exact GW.below HG.out (zW HB.out))
       rintro e o5 ⟨rfl, hb⟩
       refine ⟨_, rfl, ?_⟩
       replace a1 := zb a1 hb; replace HB := zh HB hb
       (try clear hb)
       refine hK.out _ _ zO fun hHeld => ?_
       clear hK K; refine zn ?_; refine zp 2 16 ?_; refine zp 3 17 ?_; refine zp 4 18 ?_; refine zp 5 19 ?_; refine zp 6 20 ?_; refine zu 7 21 ?_; refine zu 8 22 ?_; refine zu 9 23 ?_; refine zu 10 24 ?_; refine zu 11 25 ?_; refine zu 12 26 ?_; refine zu 13 27 ?_; refine zu 14 28 ?_; refine zu 15 29 ?_; refine zp 16 30 ?_; refine zp 17 31 ?_
       refine done_ (done_of HT_.out (by kernel_rfl)) ?_
       try go_wp2
       go_meet
       case rel => exact ⟨_, (false), zS, (by first | exact H' | (subst_vars; exact H')), ⟨by have := b3.out; have := b5.out; first | omega | exact Nat.le_refl _⟩, ⟨zK a1.out⟩, ⟨zW HB.out⟩⟩
      have H' := zA H; clear H
      try go_wp2
      generalize hW_ : ((((w7.setCell ⟨a2, 0, none⟩ (.string ((rd_T45 l0 a0).f0))).setCell ⟨a2, 1, none⟩ (.slice a3 ((rd_T45 l0 a0).f1).length a4)).setCell ⟨a2, 2, none⟩ (.slice a6 ((rd_T45 l0 a0).f2).length a7)).setCell ⟨a2, 3, none⟩ (.slice a8 ((rd_T45 l0 a0).f3).length a9)) = j4; replace a1 : Aside0 (j4.heap[a2]? = some (.cells #[.string ((rd_T45 l0 a0).f0), .slice a3 ((rd_T45 l0 a0).f1).length a4, .slice a6 ((rd_T45 l0 a0).f2).length a7, .slice a8 ((rd_T45 l0 a0).f3).length a9] 45 (0, 0))) := ⟨by subst hW_; (with_reducible repeat (first | refine blk_drewN ?_ _ | refine blk_drew ?_ | refine blk_alloc ?_ _)); refine blk_put (cs := #[.string ((rd_T45 l0 a0).f0), .slice a3 ((rd_T45 l0 a0).f1).length a4, .slice a6 ((rd_T45 l0 a0).f2).length a7, .slice none 0 0]) ?_ 3 _ rfl; (with_reducible repeat (first | refine blk_drewN ?_ _ | refine blk_drew ?_ | refine blk_alloc ?_ _)); refine blk_put (cs := #[.string ((rd_T45 l0 a0).f0), .slice a3 ((rd_T45 l0 a0).f1).length a4, .slice none 0 0, .slice none 0 0]) ?_ 2 _ rfl; (with_reducible repeat (first | refine blk_drewN ?_ _ | refine blk_drew ?_ | refine blk_alloc ?_ _)); refine blk_put (cs := #[.string ((rd_T45 l0 a0).f0), .slice none 0 0, .slice none 0 0, .slice none 0 0]) ?_ 1 _ rfl; (with_reducible repeat (first | refine blk_drewN ?_ _ | refine blk_drew ?_ | refine blk_alloc ?_ _)); refine blk_put (cs := #[.string (⟨#[]⟩ : ByteArray), .slice none 0 0, .slice none 0 0, .slice none 0 0]) ?_ 0 _ rfl; (with_reducible repeat (first | refine blk_drewN ?_ _ | refine blk_drew ?_ | refine blk_alloc ?_ _)); exact a1.out⟩; replace HB := zA (zh2 hW_.symm (zW HB.out)); clear hW_; replace a1 := zA (blk_drew a1.out); replace HB := zA (below_drew1 HB.out)
      refine start_ (n := 18) (S := fun w' => w'.cell? ⟨a2, 0, none⟩ = some (.string ((rd_T45 l0 a0).f0)) ∧ w'.cell? ⟨a2, 1, none⟩ = some (.slice a3 ((rd_T45 l0 a0).f1).length a4) ∧ w'.cell? ⟨a2, 2, none⟩ = some (.slice a6 ((rd_T45 l0 a0).f2).length a7) ∧ w'.cell? ⟨a2, 3, none⟩ = some (.slice a8 ((rd_T45 l0 a0).f3).length a9)) (ds := []) (Array.replicate 18 false) (by kernel_rfl) rfl rfl zO fun hHeld => ?_; refine with_tabW impl_PacksOk.tab4 impl_PacksOk.bits4 (fun HT_ HW_ => ?_)
      generalize j4.drew = o6 at a1 HB hHeld ⊢; refine zt 0 14 ?_
      refine zo 1 (some 15) fun K hK => ?_
      refine goes_ Tryz.func19 (by kernel_rfl) rfl #[.agg #[.string ((rd_T45 l0 a0).f0), .slice a3 ((rd_T45 l0 a0).f1).length a4, .slice a6 ((rd_T45 l0 a0).f2).length a7, .slice a8 ((rd_T45 l0 a0).f3).length a9]] (by rfl) rfl rfl zM ?_
      with_reducible refine (impl_PackOk.calls d7 ((rd_T45 l0 a0).f0) _ _ ((rd_T45 l0 a0).f1) _ _ ((rd_T45 l0 a0).f2) _ _ ((rd_T45 l0 a0).f3) false _ ?s1 ?s2 ?s3 ?s4 ?s5 ?s6 ?s7 A9.out).mono ?_
      (case s1 => exact zC (Kd.C_below d3.out HB.out))
      (case s2 => exact f6.out)
      (case s3 => exact zC (Kd.C_below f7.out HB.out))
      (case s4 => exact f8.out)
      (case s5 => exact zC (Kd.C_below f9.out HB.out))
      (case s6 => exact g0.out)
      (case s7 => exact GW.below HG.out (zW HB.out))
      rintro e o7 ⟨rfl, hb⟩
      refine ⟨_, rfl, ?_⟩
      replace a1 := zb a1 hb; replace HB := zh HB hb
      (try clear hb)
      refine hK.out _ _ zO fun hHeld => ?_
      clear hK K; refine zn ?_; refine zp 2 16 ?_; refine zp 3 17 ?_; refine zu 4 18 ?_; refine zu 5 19 ?_; refine zu 6 20 ?_; refine zu 7 21 ?_; refine zu 8 22 ?_; refine zu 9 23 ?_; refine zu 10 24 ?_; refine zu 11 25 ?_; refine zu 12 26 ?_; refine zu 13 27 ?_; refine zu 14 28 ?_; refine zu 15 29 ?_; refine zu 16 30 ?_; refine zp 17 31 ?_
      refine done_ (done_of HT_.out (by kernel_rfl)) ?_
      try go_wp2
      go_meet
      case rel => exact ⟨_, (true), zS, (by first | exact H' | (subst_vars; exact H')), ⟨by have := b3.out; have := b5.out; first | omega | exact Nat.le_refl _⟩, ⟨zK a1.out⟩, ⟨zW HB.out⟩⟩
     case rest =>
      clear f5
      try clear c1
      try clear c2
      try clear p2
      try clear c3
      try clear b4
      try clear c4
      try clear e9
      try clear c5
      try clear f4
      try clear p6
      try clear c7
      try clear p7
      try clear q7
      try clear hx7
      try clear c10
      try clear b7
      try clear b8
      try clear c13
      try clear h0
      try clear c14
      try clear h1
      try clear c19
      try clear g1 g2 g3 g4 g5 g6 g7 g8
      try clear d8
      try clear d9
      try clear e0
      try clear e1
      try clear c6
      try clear c8
      try clear c9
      try clear d0
      try clear p2
      try clear d1
      try clear d4
      try clear d2
      try clear d5
      obtain ⟨kq, g9, rfl, HA, e3, a1, HB⟩ := hcut
      cases kq with
      | zero => exact absurd HA.out (by simp [impl_PacksOk.j2])
      | succ l7 =>
       have H := HA.out; clear HA; simp only [impl_PacksOk.j2] at H; have h2 := zA H; clear H
       go_upto_if 31 with (fail)
       go_cut [] (fun wc => ∃ (kq : Nat), Aside0 (impl_PacksOk.j3 kq l0 l0 (l0.length : Int) a0 ((rd_T45 l0 a0).f0) ((rd_T45 l0 a0).f1) ((rd_T45 l0 a0).f2) ((rd_T45 l0 a0).f3) = some r) ∧ Aside0 (kq ≤ l7) ∧ Aside0 (wc.heap[a2]? = some (.cells #[.string ((rd_T45 l0 a0).f0), (.slice a3 ((rd_T45 l0 a0).f1).length a4), (.slice a6 ((rd_T45 l0 a0).f2).length a7), (.slice a8 ((rd_T45 l0 a0).f3).length a9)] 45 (0, 0))) ∧ Aside0 (Below w.heap.size w wc))
       case first =>
        have H := h2.out; clear h2; replace H := zB0 H
        rcases H with ⟨rfl, H⟩ | ⟨rfl, H⟩
        ·obtain rfl := zm H
         go_wp2
         go_ret
         exact ⟨zE, zW HB.out⟩
        have H' := zA H; clear H
        go_wp2
        go_meet
        case rel => exact ⟨_, (by first | exact H' | (subst_vars; exact H')), ⟨by have := b3.out; have := b5.out; have := e3.out; first | omega | exact Nat.le_refl _⟩, ⟨zK a1.out⟩, ⟨zW HB.out⟩⟩
       case rest =>
        clear h2
        try clear c1
        try clear c2
        try clear p2
        try clear c3
        try clear b4
        try clear c4
        try clear e9
        try clear c5
        try clear f4
        try clear p6
        try clear c7
        try clear p7
        try clear q7
        try clear hx7
        try clear c10
        try clear b7
        try clear b8
        try clear c13
        try clear h0
        try clear c14
        try clear h1
        try clear c19
        try clear c25
        try clear g1 g2 g3 g4 g5 g6 g7 g8
        try clear d8
        try clear d9
        try clear e0
        try clear e1
        try clear c6
        try clear c8
        try clear c9
        try clear d0
        try clear p2
        try clear p6
        try clear p7
        try clear d1
        try clear d4
        try clear q7
        try clear d2
        try clear d5
        obtain ⟨kq, HA, e6, a1, HB⟩ := hcut
        cases kq with
        | zero => exact absurd HA.out (by simp [impl_PacksOk.j3])
        | succ j5 =>
         have H := HA.out; clear HA; simp only [impl_PacksOk.j3] at H; have H' := zA H; clear H; obtain ⟨l8, l9, m0, m1, m2, m3, m4, m5⟩ := ze4 a1.out
         go_wp2
         go_loopg [35] j5 (fun kq m6 w' => ∃ (b0 : Int), m6 = .int .i64 b0 ∧ Aside0 (impl_PacksOk.l1 kq l0 l0 (l0.length : Int) a0 ((rd_T45 l0 a0).f1) (((rd_T45 l0 a0).f1).length : Int) b0 ((rd_T45 l0 a0).f0) ((rd_T45 l0 a0).f1) ((rd_T45 l0 a0).f2) ((rd_T45 l0 a0).f3) = some r) ∧ Aside0 (kq ≤ j5) ∧ Aside0 (w'.heap[a2]? = some (.cells #[.string ((rd_T45 l0 a0).f0), (.slice a3 ((rd_T45 l0 a0).f1).length a4), (.slice a6 ((rd_T45 l0 a0).f2).length a7), (.slice a8 ((rd_T45 l0 a0).f3).length a9)] 45 (0, 0))) ∧ Aside0 (Below w.heap.size w w'))
         case atStart => exact ⟨(0), zS, H', ⟨Nat.le_refl _⟩, ⟨zK a1.out⟩, ⟨zW HB.out⟩⟩
         case round =>
          clear H'
          try clear c1
          try clear c2
          try clear p2
          try clear c3
          try clear b4
          try clear c4
          try clear e9
          try clear c5
          try clear f4
          try clear p6
          try clear c7
          try clear p7
          try clear q7
          try clear hx7
          try clear c10
          try clear b7
          try clear b8
          try clear c13
          try clear h0
          try clear c14
          try clear h1
          try clear c19
          try clear c25
          try clear l8 l9 m0 m1 m2 m3 m4 m5
          try clear g1 g2 g3 g4 g5 g6 g7 g8
          try clear d8
          try clear d9
          try clear e0
          try clear e1
          try clear c6
          try clear c8
          try clear c9
          try clear d0
          try clear p2
          try clear p6
          try clear p7
          try clear d1
          try clear d4
          try clear q7
          try clear d2
          try clear d5
          obtain ⟨b0, rfl, HA, e7, a1, HB⟩ := hrel
          cases gk with
          | zero => exact absurd HA.out (by simp [impl_PacksOk.l1])
          | succ k5 =>
           have H := HA.out; clear HA; simp only [impl_PacksOk.l1] at H; replace H := zI0 H
           rcases H with ⟨m7, H⟩ | ⟨m7, H⟩
           ·replace H := zD0 H; obtain ⟨o8, H⟩ := H; replace H := zD0 H; obtain ⟨o9, H⟩ := H; replace H := zI1 H
            rcases H with ⟨d6, H⟩ | ⟨d6, H⟩
            ·have m8 := beq_iff_eq.mpr d6; have m9 := bne_eq_false_iff_eq.mpr d6; clear d6; obtain rfl := zm H; have b1 : 0 ≤ (b0 : Int) := zD; have b2 : b0 < (((rd_T45 l0 a0).f1).length : Int) := zD; obtain ⟨j6, e4, b9⟩ := Kd.at_string d3.out b0 b1 b2; cases e4; replace b9 := zx HB b9; replace b1 := eq_true b1; replace b2 := eq_true b2; obtain ⟨p0, p1, p3, p4, p5, p8, p9, q0⟩ := ze4 a1.out
             go_wp2
             go_ret
             exact ⟨zE, zW HB.out⟩
            have m8 := beq_eq_false_iff_ne.mpr d6; have m9 := bne_iff_ne.mpr d6; replace H := Option.bind_eq_some_iff.mp H; obtain ⟨j7, j8, H⟩ := H
            try dsimp only at H
            have j9 := zA j8; clear j8; replace H := zI0 H
            rcases H with ⟨n0, H⟩ | ⟨n0, H⟩
            ·obtain rfl := zm H; have b1 : 0 ≤ (b0 : Int) := zD; have b2 : b0 < (((rd_T45 l0 a0).f1).length : Int) := zD; obtain ⟨j6, e4, b9⟩ := Kd.at_string d3.out b0 b1 b2; cases e4; replace b9 := zx HB b9; replace b1 := eq_true b1; replace b2 := eq_true b2; obtain ⟨q1, q2, q3, q4, q5, q6, q8, q9⟩ := ze4 a1.out
             go_wp2_with (first | (go_at_call 75; (with_reducible refine (impl_FindPack.calls _ _ l0 (rdOf ByteArray.empty ((rd_T45 l0 a0).f1) b0) j7 _ ?s1 ?s2 j9.out).mono ?_); (case s1 => exact zC (Kd.C_below e5.out HB.out)); (case s2 => exact h5.out); rintro e r0 ⟨rfl, hb⟩; replace a1 := zb a1 hb; replace HB := zh HB hb; (try clear hb)))
             go_ret
             exact ⟨zE, zW HB.out⟩
            have H' := zA H; clear H; have b1 : 0 ≤ (b0 : Int) := zD; have b2 : b0 < (((rd_T45 l0 a0).f1).length : Int) := zD; obtain ⟨j6, e4, b9⟩ := Kd.at_string d3.out b0 b1 b2; cases e4; replace b9 := zx HB b9; replace b1 := eq_true b1; replace b2 := eq_true b2; obtain ⟨r1, r2, r3, r4, r5, r6, r7, r8⟩ := ze4 a1.out
            go_wp2_with (first | (go_at_call 75; (with_reducible refine (impl_FindPack.calls _ _ l0 (rdOf ByteArray.empty ((rd_T45 l0 a0).f1) b0) j7 _ ?s1 ?s2 j9.out).mono ?_); (case s1 => exact zC (Kd.C_below e5.out HB.out)); (case s2 => exact h5.out); rintro e r9 ⟨rfl, hb⟩; replace a1 := zb a1 hb; replace HB := zh HB hb; (try clear hb)))
            go_roundg k5
            case measure => have := b3.out; have := b5.out; have := e3.out; have := e6.out; have := e7.out; omega
            case rel => exact ⟨(wrap64 (b0 + 1)), zS, H', ⟨by have := b3.out; have := b5.out; have := e3.out; have := e6.out; have := e7.out; omega⟩, ⟨zK a1.out⟩, ⟨zW HB.out⟩⟩
           have H' := zA H; clear H
           go_wp2
           go_roundg k5
           case measure => have := b3.out; have := b5.out; have := e3.out; have := e6.out; have := e7.out; omega
           case rel => exact ⟨(wrap64 (a0 + 1)), zS, H', ⟨by have := b3.out; have := b5.out; have := e3.out; have := e6.out; have := e7.out; omega⟩, ⟨zW HB.out⟩⟩
/-! ### laws_eqStringS: function 50 -/
mutual
def laws_eqStringS.j0 : Nat → List ByteArray → List ByteArray → Option (Bool)
 | 0, _, _ => none
 | k + 1, x0, x1 => laws_eqStringS.l0 k x0 x1 0
def laws_eqStringS.l0 : Nat → List ByteArray → List ByteArray → Int → Option (Bool)
 | 0, _, _, _ => none
 | k + 1, x0, x1, x5 => if x5 < (x0.length : Int) then (if 0 ≤ x5 then (if x5 < (x1.length : Int) then (if (rdOf ByteArray.empty x0 x5).toList = (rdOf ByteArray.empty x1 x5).toList then (laws_eqStringS.l0 k x0 x1 (wrap64 (x5 + 1))) else (some false)) else (none)) else (none)) else (some true)
end
def laws_eqStringS.f (k : Nat) (l0 l1 : List ByteArray) : Option (Bool) := if (l0.length : Int) = (l1.length : Int) then (laws_eqStringS.j0 k l0 l1) else (some false)
theorem laws_eqStringS.calls (k : Nat) (A0 : Option Addr) (c0 : Nat) (l0 : List ByteArray) (A1 : Option Addr) (c1 : Nat) (l1 : List ByteArray) (r : Bool) (w : World) (b1 : Kd.C Kd.string w A0 l0.length l0) (b2 : l0.length ≤ c0) (b3 : Kd.C Kd.string w A1 l1.length l1) (b4 : l1.length ≤ c1) (h : laws_eqStringS.f k l0 l1 = some r) :
  Calls Tryz.prog 50 #[.slice A0 l0.length c0, .slice A1 l1.length c1] w fun e w' => e = .returned (.bool r) ∧ Drawn0 w w' := by
 have b5 := zA b1
 have d2 := zA b2
 clear b1 b2
 have b6 := zA b3
 have d3 := zA b4
 clear b3 b4
 unfold laws_eqStringS.f at h
 have H := h
 clear h
 have a6 := zA H
 clear H
 go_enter Tryz.func50, Tryz.ntmps50
 go_upto_if 10 with (fail)
 repeat (go_quiet (fail); go_upto_if 10 with (fail))
 go_cut [] (fun wc => ∃ (kq : Nat), Aside0 (laws_eqStringS.j0 kq l0 l1 = some r) ∧ Aside0 (kq ≤ k) ∧ Drawn0 w wc)
 case first =>
  have H := a6.out; clear a6; replace H := zI1 H
  rcases H with ⟨c4, H⟩ | ⟨c4, H⟩
  ·have a1 := beq_iff_eq.mpr c4; have a7 := bne_eq_false_iff_eq.mpr c4
   have a8 : (l0.length == l1.length) = true := by first | simpa using c4 | (simp at c4 ⊢; omega)
   clear c4
   (first | rw [a1] | (simp only [i64_w, i32_w]; rw [a1]) | skip)
   have H' := zA H; clear H
   go_wp2
   repeat (go_quiet (fail); try go_wp2)
   go_meet
   case rel => exact ⟨_, (by first | exact H' | (subst_vars; exact H')), ⟨by first | omega | exact Nat.le_refl _⟩, by repeat (first | exact Drawn0.refl _ | apply Drawn0.step)⟩
  have a1 := beq_eq_false_iff_ne.mpr c4; have a7 := bne_iff_ne.mpr c4
  have a8 : (l0.length == l1.length) = false := by first | simpa using c4 | (simp at c4 ⊢; omega)
  (first | rw [a1] | (simp only [i64_w, i32_w]; rw [a1]) | skip)
  obtain rfl := zm H
  go_wp2
  repeat (go_quiet (fail); try go_wp2)
  go_ret
  exact ⟨by first | rfl | (simp; done) | (simp [*]; done) | (simp; rw [Bool.eq_iff_iff]; simp; done), by repeat (first | exact Drawn0.refl _ | apply Drawn0.step)⟩
 case rest =>
  clear a6
  try clear c1
  try clear p2
  try clear c4
  try clear a1
  try clear a7
  try clear a8
  obtain ⟨kq, HA, b7, ⟨d4, rfl⟩⟩ := hcut
  cases kq with
  | zero => exact absurd HA.out (by simp [laws_eqStringS.j0])
  | succ b8 =>
   have H := HA.out; clear HA; simp only [laws_eqStringS.j0] at H; have H' := zA H; clear H
   go_wp2
   repeat (go_quiet (fail); try go_wp2)
   go_loopg [5] b8 (fun kq v5 w' => ∃ (a0 : Int), v5 = .int .i64 a0 ∧ Aside0 (laws_eqStringS.l0 kq l0 l1 a0 = some r) ∧ Aside0 (kq ≤ b8) ∧ Drawn0 w w')
   case atStart => exact ⟨(0), zS, H', ⟨Nat.le_refl _⟩, by repeat (first | exact Drawn0.refl _ | apply Drawn0.step)⟩
   case round =>
    clear H'
    try clear c1
    try clear c2
    try clear p2
    try clear c4
    try clear a1
    try clear a7
    try clear a8
    try clear p2
    obtain ⟨a0, rfl, HA, b9, ⟨m2, rfl⟩⟩ := hrel
    cases gk with
    | zero => exact absurd HA.out (by simp [laws_eqStringS.l0])
    | succ k2 =>
     have H := HA.out; clear HA; simp only [laws_eqStringS.l0] at H; replace H := zI0 H
     rcases H with ⟨c3, H⟩ | ⟨c3, H⟩
     ·replace H := zD0 H; obtain ⟨d5, H⟩ := H; replace H := zD0 H; obtain ⟨d6, H⟩ := H; replace H := zI1 H
      rcases H with ⟨c8, H⟩ | ⟨c8, H⟩
      ·have c5 := beq_iff_eq.mpr c8; have c6 := bne_eq_false_iff_eq.mpr c8; clear c8; have H' := zA H; clear H; have a2 : 0 ≤ (a0 : Int) := zD; have a3 : a0 < (l0.length : Int) := zD; obtain ⟨c7, a9, c9⟩ := Kd.at_string b5.out a0 a2 a3; cases a9; replace a2 := eq_true a2; replace a3 := eq_true a3; have a4 : 0 ≤ (a0 : Int) := zD; have a5 : a0 < (l1.length : Int) := zD; obtain ⟨d0, b0, d1⟩ := Kd.at_string b6.out a0 a4 a5; cases b0; replace a4 := eq_true a4; replace a5 := eq_true a5
       go_wp2
       repeat (go_quiet (fail); try go_wp2)
       go_roundg k2
       case measure => have := b7.out; have := b9.out; omega
       case rel => exact ⟨(wrap64 (a0 + 1)), zS, H', ⟨by have := b7.out; have := b9.out; omega⟩, by repeat (first | exact Drawn0.refl _ | apply Drawn0.step)⟩
      have c5 := beq_eq_false_iff_ne.mpr c8; have c6 := bne_iff_ne.mpr c8; obtain rfl := zm H; have a2 : 0 ≤ (a0 : Int) := zD; have a3 : a0 < (l0.length : Int) := zD; obtain ⟨c7, a9, c9⟩ := Kd.at_string b5.out a0 a2 a3; cases a9; replace a2 := eq_true a2; replace a3 := eq_true a3; have a4 : 0 ≤ (a0 : Int) := zD; have a5 : a0 < (l1.length : Int) := zD; obtain ⟨d0, b0, d1⟩ := Kd.at_string b6.out a0 a4 a5; cases b0; replace a4 := eq_true a4; replace a5 := eq_true a5
      go_wp2
      repeat (go_quiet (fail); try go_wp2)
      go_ret
      exact ⟨by first | rfl | (simp; done) | (simp [*]; done) | (simp; rw [Bool.eq_iff_iff]; simp; done), by repeat (first | exact Drawn0.refl _ | apply Drawn0.step)⟩
     obtain rfl := zm H
     go_wp2
     repeat (go_quiet (fail); try go_wp2)
     go_ret
     exact ⟨by first | rfl | (simp; done) | (simp [*]; done) | (simp; rw [Bool.eq_iff_iff]; simp; done), by repeat (first | exact Drawn0.refl _ | apply Drawn0.step)⟩
/-! ### laws_eqNeed: function 117 -/
def laws_eqNeed.f (a0 a1 a2 a3 : ByteArray) : Option (Bool) := if a0.toList = a2.toList then (if a1.toList = a3.toList then (some true) else (some false)) else (some false)
theorem laws_eqNeed.calls (a3 a4 a5 a6 : ByteArray) (r : Bool) (w : World) (h : laws_eqNeed.f a3 a4 a5 a6 = some r) :
  Calls Tryz.prog 117 #[.agg #[.string a3, .string a4], .agg #[.string a5, .string a6]] w fun e w' => e = .returned (.bool r) ∧ Below w.heap.size w w' := by
 have b2 := Tryz.underlying30
 have HB := zA (Below.refl w.heap.size w)
 unfold laws_eqNeed.f at h
 have H := h
 clear h
 go_enter Tryz.func117, Tryz.ntmps117
 go_upto_if 9 with (first | ((with_reducible refine zd 2 ?_); refine ze 2 30 #[.string a3, .string a4] ?_; intro b3 hg w5 hbox hb; have a0 := zA (hbox); have b4 := zi HB hg; have b5 := zi HB hg; replace HB := zA (below_step (zB) hb); clear hb hbox hg) | ((with_reducible refine zd 3 ?_); refine ze 3 30 #[.string a5, .string a6] ?_; intro b6 hg w6 hbox hb; have a9 := zA (hbox); have b7 := zi HB hg; have b8 := zi HB hg; replace HB := zh HB hb; have b0 := zA (zL hg (zK a0.out)); have b1 := zA (zJ hg (zK a0.out)); replace a0 := zb a0 hb; clear hb hbox hg; have b9 := b0.out; have c0 := b1.out; obtain ⟨c1, c2, c5, c6⟩ := ze2 a0.out; obtain ⟨c7, c8, c9, d0⟩ := ze2 a9.out))
 (try simp only [Act.put, zT])
 replace H := zI1 H
 rcases H with ⟨c3, H⟩ | ⟨c3, H⟩
 ·have a1 := beq_iff_eq.mpr c3; have a2 := bne_eq_false_iff_eq.mpr c3; clear c3; replace H := zI1 H
  rcases H with ⟨c4, H⟩ | ⟨c4, H⟩
  ·have a7 := beq_iff_eq.mpr c4; have a8 := bne_eq_false_iff_eq.mpr c4; clear c4; obtain rfl := zm H
   (try simp only [a1, a2, a7, a8])
   go_wp2
   go_ret
   exact ⟨zE, zW HB.out⟩
  have a7 := beq_eq_false_iff_ne.mpr c4; have a8 := bne_iff_ne.mpr c4; obtain rfl := zm H
  (try simp only [a1, a2, a7, a8])
  go_wp2
  go_ret
  exact ⟨zE, zW HB.out⟩
 have a1 := beq_eq_false_iff_ne.mpr c3
 have a2 := bne_iff_ne.mpr c3
 obtain rfl := zm H
 (try simp only [a1, a2])
 go_wp2
 go_ret
 exact ⟨zE, zW HB.out⟩
/-! ### laws_eqNeedS: function 65 -/
mutual
def laws_eqNeedS.j0 : Nat → List (S30) → List (S30) → Option (Bool)
 | 0, _, _ => none
 | k + 1, x0, x1 => laws_eqNeedS.l0 k x0 x1 0
def laws_eqNeedS.l0 : Nat → List (S30) → List (S30) → Int → Option (Bool)
 | 0, _, _, _ => none
 | k + 1, x0, x1, x5 => if x5 < (x0.length : Int) then (if 0 ≤ x5 then (if x5 < (x1.length : Int) then ((laws_eqNeed.f ((rd_T30 x0 x5).f0) ((rd_T30 x0 x5).f1) ((rd_T30 x1 x5).f0) ((rd_T30 x1 x5).f1)).bind fun a0 => (if a0 = true then (laws_eqNeedS.l0 k x0 x1 (wrap64 (x5 + 1))) else (some false))) else (none)) else (none)) else (some true)
end
def laws_eqNeedS.f (k : Nat) (l0 : List (S30)) (l1 : List (S30)) : Option (Bool) := if (l0.length : Int) = (l1.length : Int) then (laws_eqNeedS.j0 k l0 l1) else (some false)
def laws_eqNeedS.T6 : Bool × List (List Nat × List Nat) := (true, [([], []), ([], []), ([0, 1], [0, 1]), ([2], [2]), ([], []), ([], []), ([4, 5], [4, 5]), ([6], [6]), ([3, 7], [3, 7]), ([8], [8])])
def laws_eqNeedS.B6 : List Nat := [0, 0, 3, 7, 0, 0, 48, 112, 255, 511]
theorem laws_eqNeedS.tab6 : rtab .any (opsOf Tryz.f65 6) = laws_eqNeedS.T6 := by kernel_rfl
theorem laws_eqNeedS.bits6 : waitsOk laws_eqNeedS.T6.2 laws_eqNeedS.B6 = true := by kernel_rfl
theorem laws_eqNeedS.calls (k : Nat) (A0 : Option Addr) (c0 : Nat) (l0 : List (S30)) (A1 : Option Addr) (c1 : Nat) (l1 : List (S30)) (r : Bool) (w : World) (b7 : Kd.C k30 w A0 l0.length l0) (b8 : l0.length ≤ c0) (b9 : Kd.C k30 w A1 l1.length l1) (c2 : l1.length ≤ c1) (h : laws_eqNeedS.f k l0 l1 = some r) :
  Calls Tryz.prog 65 #[.slice A0 l0.length c0, .slice A1 l1.length c1] w fun e w' => e = .returned (.bool r) ∧ Below w.heap.size w w' := by
 have d5 := Tryz.underlying30
 have c3 := zA b7
 have d6 := zA b8
 clear b7 b8
 have c5 := zA b9
 have d7 := zA c2
 clear b9 c2
 have HB := zA (Below.refl w.heap.size w)
 unfold laws_eqNeedS.f at h
 have H := h
 clear h
 have b2 := zA H
 clear H
 go_enter Tryz.func65, Tryz.ntmps65
 go_upto_if 10 with (fail)
 go_cut [] (fun wc => ∃ (kq : Nat), Aside0 (laws_eqNeedS.j0 kq l0 l1 = some r) ∧ Aside0 (kq ≤ k) ∧ Aside0 (Below w.heap.size w wc))
 case first =>
  have H := b2.out; clear b2; replace H := zI1 H
  rcases H with ⟨c4, H⟩ | ⟨c4, H⟩
  ·have a5 := beq_iff_eq.mpr c4; have b3 := bne_eq_false_iff_eq.mpr c4
   have b4 : (l0.length == l1.length) = true := by first | simpa using c4 | (simp at c4 ⊢; omega)
   clear c4
   (first | rw [a5] | (simp only [i64_w, i32_w]; rw [a5]) | skip)
   have H' := zA H; clear H
   go_wp2
   go_meet
   case rel => exact ⟨_, (by first | exact H' | (subst_vars; exact H')), ⟨by first | omega | exact Nat.le_refl _⟩, ⟨zB⟩⟩
  have a5 := beq_eq_false_iff_ne.mpr c4; have b3 := bne_iff_ne.mpr c4
  have b4 : (l0.length == l1.length) = false := by first | simpa using c4 | (simp at c4 ⊢; omega)
  (first | rw [a5] | (simp only [i64_w, i32_w]; rw [a5]) | skip)
  obtain rfl := zm H
  go_wp2
  go_ret
  exact ⟨zE, zB⟩
 case rest =>
  clear b2
  try clear c1
  try clear p2
  try clear c4
  try clear a5
  try clear b3
  try clear b4
  obtain ⟨kq, HA, c6, HB⟩ := hcut
  cases kq with
  | zero => exact absurd HA.out (by simp [laws_eqNeedS.j0])
  | succ c7 =>
   have H := HA.out; clear HA; simp only [laws_eqNeedS.j0] at H; have H' := zA H; clear H
   go_wp2
   go_loopg [5] c7 (fun kq v5 w' => ∃ (a0 : Int), v5 = .int .i64 a0 ∧ Aside0 (laws_eqNeedS.l0 kq l0 l1 a0 = some r) ∧ Aside0 (kq ≤ c7) ∧ Aside0 (Below w.heap.size w w'))
   case atStart => exact ⟨(0), zS, H', ⟨Nat.le_refl _⟩, ⟨zB⟩⟩
   case round =>
    clear H'
    try clear c1
    try clear p2
    try clear c4
    try clear a5
    try clear b3
    try clear b4
    try clear p2
    obtain ⟨a0, rfl, HA, c8, HB⟩ := hrel
    cases gk with
    | zero => exact absurd HA.out (by simp [laws_eqNeedS.l0])
    | succ k2 =>
     have H := HA.out; clear HA; simp only [laws_eqNeedS.l0] at H; replace H := zI0 H
     rcases H with ⟨d0, H⟩ | ⟨d0, H⟩
     ·replace H := zD0 H; obtain ⟨d8, H⟩ := H; replace H := zD0 H; obtain ⟨d9, H⟩ := H; replace H := Option.bind_eq_some_iff.mp H; obtain ⟨e0, c9, H⟩ := H
      try dsimp only at H
      have A8 := zA c9; clear c9; replace H := zB0 H
      rcases H with ⟨rfl, H⟩ | ⟨rfl, H⟩
      ·have H' := zA H; clear H
       try go_wp2
       replace HB := zA (below_drew1 HB.out); have a6 : 0 ≤ (a0 : Int) := zD; have a7 : a0 < (l0.length : Int) := zD; obtain ⟨a8, b5, a1, a2⟩ := at_T30 c3.out a0 a6 a7; have d1 := a2; have d2 := a1; cases b5; replace a1 := zx HB a1; replace a2 := zx HB a2; replace a6 := eq_true a6; replace a7 := eq_true a7; have a9 : 0 ≤ (a0 : Int) := zD; have b0 : a0 < (l1.length : Int) := zD; obtain ⟨b1, b6, a3, a4⟩ := at_T30 c5.out a0 a9 b0; have d3 := a4; have d4 := a3; cases b6; replace a3 := zx HB a3; replace a4 := zx HB a4; replace a9 := eq_true a9; replace b0 := eq_true b0
       refine start_ (n := 10) (S := fun w' => w'.cell? (a8.add ((a0).toNat * 2)) = some (.string ((rd_T30 l0 a0).f0)) ∧ w'.cell? ⟨(a8.add ((a0).toNat * 2)).block, (a8.add ((a0).toNat * 2)).off + 1, none⟩ = some (.string ((rd_T30 l0 a0).f1)) ∧ w'.cell? (b1.add ((a0).toNat * 2)) = some (.string ((rd_T30 l1 a0).f0)) ∧ w'.cell? ⟨(b1.add ((a0).toNat * 2)).block, (b1.add ((a0).toNat * 2)).off + 1, none⟩ = some (.string ((rd_T30 l1 a0).f1))) (ds := []) (Array.replicate 10 false) (by kernel_rfl) rfl rfl zO fun hHeld => ?_; refine with_tabW laws_eqNeedS.tab6 laws_eqNeedS.bits6 (fun HT_ HW_ => ?_)
       generalize wr.drew = e1 at HB a1 a2 a3 a4 hHeld ⊢; refine zp 0 17 ?_; refine zp 1 18 ?_; refine zp 2 19 ?_; refine zp 4 21 ?_; refine zp 5 22 ?_; refine zp 6 23 ?_; refine zt 3 20 ?_; refine zt 7 24 ?_
       refine zo 8 (some 25) fun K hK => ?_
       refine goes_ Tryz.func117 (by kernel_rfl) rfl #[.agg #[.string ((rd_T30 l0 a0).f0), .string ((rd_T30 l0 a0).f1)], .agg #[.string ((rd_T30 l1 a0).f0), .string ((rd_T30 l1 a0).f1)]] (by rfl) rfl rfl zM ?_
       with_reducible refine (laws_eqNeed.calls ((rd_T30 l0 a0).f0) ((rd_T30 l0 a0).f1) ((rd_T30 l1 a0).f0) ((rd_T30 l1 a0).f1) true _ A8.out).mono ?_
       rintro e e2 ⟨rfl, hb⟩
       refine ⟨_, rfl, ?_⟩
       replace HB := zA (below_step (zB) hb)
       (try clear hb)
       refine hK.out _ _ zO fun hHeld => ?_
       clear hK K; refine zn ?_; refine zp 9 26 ?_
       refine done_ (done_of HT_.out (by kernel_rfl)) ?_
       try go_wp2
       go_roundg k2
       case measure => have := c6.out; have := c8.out; omega
       case rel => exact ⟨(wrap64 (a0 + 1)), zS, H', ⟨by have := c6.out; have := c8.out; omega⟩, ⟨zB⟩⟩
      obtain rfl := zm H
      try go_wp2
      replace HB := zA (below_drew1 HB.out); have a6 : 0 ≤ (a0 : Int) := zD; have a7 : a0 < (l0.length : Int) := zD; obtain ⟨a8, b5, a1, a2⟩ := at_T30 c3.out a0 a6 a7; have d1 := a2; have d2 := a1; cases b5; replace a1 := zx HB a1; replace a2 := zx HB a2; replace a6 := eq_true a6; replace a7 := eq_true a7; have a9 : 0 ≤ (a0 : Int) := zD; have b0 : a0 < (l1.length : Int) := zD; obtain ⟨b1, b6, a3, a4⟩ := at_T30 c5.out a0 a9 b0; have d3 := a4; have d4 := a3; cases b6; replace a3 := zx HB a3; replace a4 := zx HB a4; replace a9 := eq_true a9; replace b0 := eq_true b0
      refine start_ (n := 10) (S := fun w' => w'.cell? (a8.add ((a0).toNat * 2)) = some (.string ((rd_T30 l0 a0).f0)) ∧ w'.cell? ⟨(a8.add ((a0).toNat * 2)).block, (a8.add ((a0).toNat * 2)).off + 1, none⟩ = some (.string ((rd_T30 l0 a0).f1)) ∧ w'.cell? (b1.add ((a0).toNat * 2)) = some (.string ((rd_T30 l1 a0).f0)) ∧ w'.cell? ⟨(b1.add ((a0).toNat * 2)).block, (b1.add ((a0).toNat * 2)).off + 1, none⟩ = some (.string ((rd_T30 l1 a0).f1))) (ds := []) (Array.replicate 10 false) (by kernel_rfl) rfl rfl zO fun hHeld => ?_; refine with_tabW laws_eqNeedS.tab6 laws_eqNeedS.bits6 (fun HT_ HW_ => ?_)
      generalize wr.drew = e3 at HB a1 a2 a3 a4 hHeld ⊢; refine zp 0 17 ?_; refine zp 1 18 ?_; refine zp 2 19 ?_; refine zp 4 21 ?_; refine zp 5 22 ?_; refine zp 6 23 ?_; refine zt 3 20 ?_; refine zt 7 24 ?_
      refine zo 8 (some 25) fun K hK => ?_
      refine goes_ Tryz.func117 (by kernel_rfl) rfl #[.agg #[.string ((rd_T30 l0 a0).f0), .string ((rd_T30 l0 a0).f1)], .agg #[.string ((rd_T30 l1 a0).f0), .string ((rd_T30 l1 a0).f1)]] (by rfl) rfl rfl zM ?_
      with_reducible refine (laws_eqNeed.calls ((rd_T30 l0 a0).f0) ((rd_T30 l0 a0).f1) ((rd_T30 l1 a0).f0) ((rd_T30 l1 a0).f1) false _ A8.out).mono ?_
      rintro e e4 ⟨rfl, hb⟩
      refine ⟨_, rfl, ?_⟩
      replace HB := zA (below_step (zB) hb)
      (try clear hb)
      refine hK.out _ _ zO fun hHeld => ?_
      clear hK K; refine zn ?_; refine zp 9 26 ?_
      refine done_ (done_of HT_.out (by kernel_rfl)) ?_
      try go_wp2
      go_ret
      exact ⟨zE, zB⟩
     obtain rfl := zm H
     go_wp2
     go_ret
     exact ⟨zE, zB⟩
/-! ### laws_eqCmd: function 118 -/
def laws_eqCmd.f (k : Nat) (a0 : ByteArray) (a1 : List ByteArray) (a2 : ByteArray) (a3 : List ByteArray) : Option (Bool) := if a0.toList = a2.toList then ((laws_eqStringS.f k a1 a3).bind fun a4 => (if a4 = true then (some true) else (some false))) else (some false)
theorem laws_eqCmd.calls (k : Nat) (a9 : ByteArray) (a2 : Option Addr) (a3 : Nat) (a0 : List ByteArray) (b0 : ByteArray) (a4 : Option Addr) (a5 : Nat) (a1 : List ByteArray) (r : Bool) (w : World) (b1 : Kd.C Kd.string w a2 a0.length a0) (b2 : a0.length ≤ a3) (b3 : Kd.C Kd.string w a4 a1.length a1) (b4 : a1.length ≤ a5) (h : laws_eqCmd.f k a9 a0 b0 a1 = some r) :
  Calls Tryz.prog 118 #[.agg #[.string a9, .slice a2 a0.length a3], .agg #[.string b0, .slice a4 a1.length a5]] w fun e w' => e = .returned (.bool r) ∧ Below w.heap.size w w' := by
 have c4 := Tryz.underlying93
 have b5 := zA b1
 have b6 := zA b2
 clear b1 b2
 have b7 := zA b3
 have b8 := zA b4
 clear b3 b4
 have HB := zA (Below.refl w.heap.size w)
 unfold laws_eqCmd.f at h
 have H := h
 clear h
 go_enter Tryz.func118, Tryz.ntmps118
 go_upto_if 9 with (first | ((with_reducible refine zd 2 ?_); refine ze 2 93 #[.string a9, .slice a2 a0.length a3] ?_; intro c5 hg w6 hbox hb; have a6 := zA (hbox); have c6 := zi HB hg; have c7 := zi HB hg; replace HB := zA (below_step (zB) hb); clear hb hbox hg) | ((with_reducible refine zd 3 ?_); refine ze 3 93 #[.string b0, .slice a4 a1.length a5] ?_; intro c8 hg w7 hbox hb; have c0 := zA (hbox); have c9 := zi HB hg; have d0 := zi HB hg; replace HB := zh HB hb; have c1 := zA (zL hg (zK a6.out)); have c2 := zA (zJ hg (zK a6.out)); replace a6 := zb a6 hb; clear hb hbox hg; have d1 := c1.out; have d2 := c2.out; obtain ⟨d3, d4, d5, d6⟩ := ze2 a6.out; obtain ⟨d7, d8, d9, e0⟩ := ze2 c0.out))
 (try simp only [Act.put, zT])
 replace H := zI1 H
 rcases H with ⟨c3, H⟩ | ⟨c3, H⟩
 ·have a7 := beq_iff_eq.mpr c3; have a8 := bne_eq_false_iff_eq.mpr c3; clear c3; replace H := Option.bind_eq_some_iff.mp H; obtain ⟨e1, b9, H⟩ := H
  try dsimp only at H
  have A4 := zA b9; clear b9; replace H := zB0 H
  rcases H with ⟨rfl, H⟩ | ⟨rfl, H⟩
  ·obtain rfl := zm H
   (try simp only [a7, a8])
   go_wp2_with (first | ((with_reducible refine zq 50 ?_); refine zg (some 14) Tryz.func50 #[.slice a2 a0.length a3, .slice a4 a1.length a5] ?_; (with_reducible refine (laws_eqStringS.calls k _ _ a0 _ _ a1 true _ ?s1 ?s2 ?s3 ?s4 A4.out).mono ?_); (case s1 => exact zC (Kd.C_below b5.out HB.out)); (case s2 => exact b6.out); (case s3 => exact zC (Kd.C_below b7.out HB.out)); (case s4 => exact b8.out); rintro e w' ⟨rfl, ⟨nd, rfl⟩⟩; refine ⟨_, rfl, ?_⟩))
   go_ret
   exact ⟨zE, zW HB.out⟩
  obtain rfl := zm H
  (try simp only [a7, a8])
  go_wp2_with (first | ((with_reducible refine zq 50 ?_); refine zg (some 14) Tryz.func50 #[.slice a2 a0.length a3, .slice a4 a1.length a5] ?_; (with_reducible refine (laws_eqStringS.calls k _ _ a0 _ _ a1 false _ ?s1 ?s2 ?s3 ?s4 A4.out).mono ?_); (case s1 => exact zC (Kd.C_below b5.out HB.out)); (case s2 => exact b6.out); (case s3 => exact zC (Kd.C_below b7.out HB.out)); (case s4 => exact b8.out); rintro e w' ⟨rfl, ⟨nd, rfl⟩⟩; refine ⟨_, rfl, ?_⟩))
  go_ret
  exact ⟨zE, zW HB.out⟩
 have a7 := beq_eq_false_iff_ne.mpr c3
 have a8 := bne_iff_ne.mpr c3
 obtain rfl := zm H
 (try simp only [a7, a8])
 go_wp2
 go_ret
 exact ⟨zE, zW HB.out⟩
/-! ### laws_eqCmdS: function 66 -/
mutual
def laws_eqCmdS.j0 : Nat → List (S93) → List (S93) → Option (Bool)
 | 0, _, _ => none
 | k + 1, x0, x1 => laws_eqCmdS.l0 k x0 x1 0
def laws_eqCmdS.l0 : Nat → List (S93) → List (S93) → Int → Option (Bool)
 | 0, _, _, _ => none
 | k + 1, x0, x1, x5 => if x5 < (x0.length : Int) then (if 0 ≤ x5 then (if x5 < (x1.length : Int) then ((laws_eqCmd.f k ((rd_T93 x0 x5).f0) ((rd_T93 x0 x5).f1) ((rd_T93 x1 x5).f0) ((rd_T93 x1 x5).f1)).bind fun a0 => (if a0 = true then (laws_eqCmdS.l0 k x0 x1 (wrap64 (x5 + 1))) else (some false))) else (none)) else (none)) else (some true)
end
def laws_eqCmdS.f (k : Nat) (l0 : List (S93)) (l1 : List (S93)) : Option (Bool) := if (l0.length : Int) = (l1.length : Int) then (laws_eqCmdS.j0 k l0 l1) else (some false)
def laws_eqCmdS.T6 : Bool × List (List Nat × List Nat) := (true, [([], []), ([], []), ([0, 1], [0, 1]), ([2], [2]), ([], []), ([], []), ([4, 5], [4, 5]), ([6], [6]), ([3, 7], [3, 7]), ([8], [8])])
def laws_eqCmdS.B6 : List Nat := [0, 0, 3, 7, 0, 0, 48, 112, 255, 511]
theorem laws_eqCmdS.tab6 : rtab .any (opsOf Tryz.f66 6) = laws_eqCmdS.T6 := by kernel_rfl
theorem laws_eqCmdS.bits6 : waitsOk laws_eqCmdS.T6.2 laws_eqCmdS.B6 = true := by kernel_rfl
theorem laws_eqCmdS.calls (k : Nat) (A0 : Option Addr) (c0 : Nat) (l0 : List (S93)) (A1 : Option Addr) (c1 : Nat) (l1 : List (S93)) (r : Bool) (w : World) (d2 : Kd.C k93 w A0 l0.length l0) (d3 : l0.length ≤ c0) (d4 : Kd.C k93 w A1 l1.length l1) (d5 : l1.length ≤ c1) (h : laws_eqCmdS.f k l0 l1 = some r) :
  Calls Tryz.prog 66 #[.slice A0 l0.length c0, .slice A1 l1.length c1] w fun e w' => e = .returned (.bool r) ∧ Below w.heap.size w w' := by
 have e7 := Tryz.underlying93
 have d6 := zA d2
 have e8 := zA d3
 clear d2 d3
 have d7 := zA d4
 have e9 := zA d5
 clear d4 d5
 have HB := zA (Below.refl w.heap.size w)
 unfold laws_eqCmdS.f at h
 have H := h
 clear h
 have c5 := zA H
 clear H
 go_enter Tryz.func66, Tryz.ntmps66
 go_upto_if 10 with (fail)
 go_cut [] (fun wc => ∃ (kq : Nat), Aside0 (laws_eqCmdS.j0 kq l0 l1 = some r) ∧ Aside0 (kq ≤ k) ∧ Aside0 (Below w.heap.size w wc))
 case first =>
  have H := c5.out; clear c5; replace H := zI1 H
  rcases H with ⟨c4, H⟩ | ⟨c4, H⟩
  ·have a5 := beq_iff_eq.mpr c4; have c6 := bne_eq_false_iff_eq.mpr c4
   have c7 : (l0.length == l1.length) = true := by first | simpa using c4 | (simp at c4 ⊢; omega)
   clear c4
   (first | rw [a5] | (simp only [i64_w, i32_w]; rw [a5]) | skip)
   have H' := zA H; clear H
   go_wp2
   go_meet
   case rel => exact ⟨_, (by first | exact H' | (subst_vars; exact H')), ⟨by first | omega | exact Nat.le_refl _⟩, ⟨zB⟩⟩
  have a5 := beq_eq_false_iff_ne.mpr c4; have c6 := bne_iff_ne.mpr c4
  have c7 : (l0.length == l1.length) = false := by first | simpa using c4 | (simp at c4 ⊢; omega)
  (first | rw [a5] | (simp only [i64_w, i32_w]; rw [a5]) | skip)
  obtain rfl := zm H
  go_wp2
  go_ret
  exact ⟨zE, zB⟩
 case rest =>
  clear c5
  try clear c1
  try clear p2
  try clear c4
  try clear a5
  try clear c6
  try clear c7
  obtain ⟨kq, HA, d8, HB⟩ := hcut
  cases kq with
  | zero => exact absurd HA.out (by simp [laws_eqCmdS.j0])
  | succ d9 =>
   have H := HA.out; clear HA; simp only [laws_eqCmdS.j0] at H; have H' := zA H; clear H
   go_wp2
   go_loopg [5] d9 (fun kq v5 w' => ∃ (a0 : Int), v5 = .int .i64 a0 ∧ Aside0 (laws_eqCmdS.l0 kq l0 l1 a0 = some r) ∧ Aside0 (kq ≤ d9) ∧ Aside0 (Below w.heap.size w w'))
   case atStart => exact ⟨(0), zS, H', ⟨Nat.le_refl _⟩, ⟨zB⟩⟩
   case round =>
    clear H'
    try clear c1
    try clear p2
    try clear c4
    try clear a5
    try clear c6
    try clear c7
    try clear p2
    obtain ⟨a0, rfl, HA, e0, HB⟩ := hrel
    cases gk with
    | zero => exact absurd HA.out (by simp [laws_eqCmdS.l0])
    | succ k2 =>
     have H := HA.out; clear HA; simp only [laws_eqCmdS.l0] at H; replace H := zI0 H
     rcases H with ⟨e2, H⟩ | ⟨e2, H⟩
     ·replace H := zD0 H; obtain ⟨f2, H⟩ := H; replace H := zD0 H; obtain ⟨f3, H⟩ := H; replace H := Option.bind_eq_some_iff.mp H; obtain ⟨f4, e1, H⟩ := H
      try dsimp only at H
      have A8 := zA e1; clear e1; replace H := zB0 H
      rcases H with ⟨rfl, H⟩ | ⟨rfl, H⟩
      ·have H' := zA H; clear H
       try go_wp2
       replace HB := zA (below_drew1 HB.out); have a6 : 0 ≤ (a0 : Int) := zD; have a7 : a0 < (l0.length : Int) := zD; obtain ⟨a8, b2, b3, c8, a1, a2, b4, b5⟩ := at_T93 d6.out a0 a6 a7; have e3 := a2; have e4 := a1; cases c8; replace a1 := zx HB a1; replace a2 := zx HB a2; have b6 := zA b5; have c9 := zA b4; clear b5 b4; replace a6 := eq_true a6; replace a7 := eq_true a7; have a9 : 0 ≤ (a0 : Int) := zD; have b0 : a0 < (l1.length : Int) := zD; obtain ⟨b1, b7, b8, d0, a3, a4, b9, c2⟩ := at_T93 d7.out a0 a9 b0; have e5 := a4; have e6 := a3; cases d0; replace a3 := zx HB a3; replace a4 := zx HB a4; have c3 := zA c2; have d1 := zA b9; clear c2 b9; replace a9 := eq_true a9; replace b0 := eq_true b0
       refine start_ (n := 10) (S := fun w' => w'.cell? (a8.add ((a0).toNat * 2)) = some (.string ((rd_T93 l0 a0).f0)) ∧ w'.cell? ⟨(a8.add ((a0).toNat * 2)).block, (a8.add ((a0).toNat * 2)).off + 1, none⟩ = some (.slice b2 ((rd_T93 l0 a0).f1).length b3) ∧ w'.cell? (b1.add ((a0).toNat * 2)) = some (.string ((rd_T93 l1 a0).f0)) ∧ w'.cell? ⟨(b1.add ((a0).toNat * 2)).block, (b1.add ((a0).toNat * 2)).off + 1, none⟩ = some (.slice b7 ((rd_T93 l1 a0).f1).length b8)) (ds := []) (Array.replicate 10 false) (by kernel_rfl) rfl rfl zO fun hHeld => ?_; refine with_tabW laws_eqCmdS.tab6 laws_eqCmdS.bits6 (fun HT_ HW_ => ?_)
       generalize wr.drew = f5 at HB b6 c3 a1 a2 a3 a4 hHeld ⊢; refine zp 0 17 ?_; refine zp 1 18 ?_; refine zp 2 19 ?_; refine zp 4 21 ?_; refine zp 5 22 ?_; refine zp 6 23 ?_; refine zt 3 20 ?_; refine zt 7 24 ?_
       refine zo 8 (some 25) fun K hK => ?_
       refine goes_ Tryz.func118 (by kernel_rfl) rfl #[.agg #[.string ((rd_T93 l0 a0).f0), .slice b2 ((rd_T93 l0 a0).f1).length b3], .agg #[.string ((rd_T93 l1 a0).f0), .slice b7 ((rd_T93 l1 a0).f1).length b8]] (by rfl) rfl rfl zM ?_
       with_reducible refine (laws_eqCmd.calls k2 ((rd_T93 l0 a0).f0) _ _ ((rd_T93 l0 a0).f1) ((rd_T93 l1 a0).f0) _ _ ((rd_T93 l1 a0).f1) true _ ?s1 ?s2 ?s3 ?s4 A8.out).mono ?_
       (case s1 => exact zC (Kd.C_below b6.out HB.out))
       (case s2 => exact c9.out)
       (case s3 => exact zC (Kd.C_below c3.out HB.out))
       (case s4 => exact d1.out)
       rintro e f6 ⟨rfl, hb⟩
       refine ⟨_, rfl, ?_⟩
       replace HB := zA (below_step (zB) hb)
       (try clear hb)
       refine hK.out _ _ zO fun hHeld => ?_
       clear hK K; refine zn ?_; refine zp 9 26 ?_
       refine done_ (done_of HT_.out (by kernel_rfl)) ?_
       try go_wp2
       go_roundg k2
       case measure => have := d8.out; have := e0.out; omega
       case rel => exact ⟨(wrap64 (a0 + 1)), zS, H', ⟨by have := d8.out; have := e0.out; omega⟩, ⟨zB⟩⟩
      obtain rfl := zm H
      try go_wp2
      replace HB := zA (below_drew1 HB.out); have a6 : 0 ≤ (a0 : Int) := zD; have a7 : a0 < (l0.length : Int) := zD; obtain ⟨a8, b2, b3, c8, a1, a2, b4, b5⟩ := at_T93 d6.out a0 a6 a7; have e3 := a2; have e4 := a1; cases c8; replace a1 := zx HB a1; replace a2 := zx HB a2; have b6 := zA b5; have c9 := zA b4; clear b5 b4; replace a6 := eq_true a6; replace a7 := eq_true a7; have a9 : 0 ≤ (a0 : Int) := zD; have b0 : a0 < (l1.length : Int) := zD; obtain ⟨b1, b7, b8, d0, a3, a4, b9, c2⟩ := at_T93 d7.out a0 a9 b0; have e5 := a4; have e6 := a3; cases d0; replace a3 := zx HB a3; replace a4 := zx HB a4; have c3 := zA c2; have d1 := zA b9; clear c2 b9; replace a9 := eq_true a9; replace b0 := eq_true b0
      refine start_ (n := 10) (S := fun w' => w'.cell? (a8.add ((a0).toNat * 2)) = some (.string ((rd_T93 l0 a0).f0)) ∧ w'.cell? ⟨(a8.add ((a0).toNat * 2)).block, (a8.add ((a0).toNat * 2)).off + 1, none⟩ = some (.slice b2 ((rd_T93 l0 a0).f1).length b3) ∧ w'.cell? (b1.add ((a0).toNat * 2)) = some (.string ((rd_T93 l1 a0).f0)) ∧ w'.cell? ⟨(b1.add ((a0).toNat * 2)).block, (b1.add ((a0).toNat * 2)).off + 1, none⟩ = some (.slice b7 ((rd_T93 l1 a0).f1).length b8)) (ds := []) (Array.replicate 10 false) (by kernel_rfl) rfl rfl zO fun hHeld => ?_; refine with_tabW laws_eqCmdS.tab6 laws_eqCmdS.bits6 (fun HT_ HW_ => ?_)
      generalize wr.drew = f7 at HB b6 c3 a1 a2 a3 a4 hHeld ⊢; refine zp 0 17 ?_; refine zp 1 18 ?_; refine zp 2 19 ?_; refine zp 4 21 ?_; refine zp 5 22 ?_; refine zp 6 23 ?_; refine zt 3 20 ?_; refine zt 7 24 ?_
      refine zo 8 (some 25) fun K hK => ?_
      refine goes_ Tryz.func118 (by kernel_rfl) rfl #[.agg #[.string ((rd_T93 l0 a0).f0), .slice b2 ((rd_T93 l0 a0).f1).length b3], .agg #[.string ((rd_T93 l1 a0).f0), .slice b7 ((rd_T93 l1 a0).f1).length b8]] (by rfl) rfl rfl zM ?_
      with_reducible refine (laws_eqCmd.calls k2 ((rd_T93 l0 a0).f0) _ _ ((rd_T93 l0 a0).f1) ((rd_T93 l1 a0).f0) _ _ ((rd_T93 l1 a0).f1) false _ ?s1 ?s2 ?s3 ?s4 A8.out).mono ?_
      (case s1 => exact zC (Kd.C_below b6.out HB.out))
      (case s2 => exact c9.out)
      (case s3 => exact zC (Kd.C_below c3.out HB.out))
      (case s4 => exact d1.out)
      rintro e f8 ⟨rfl, hb⟩
      refine ⟨_, rfl, ?_⟩
      replace HB := zA (below_step (zB) hb)
      (try clear hb)
      refine hK.out _ _ zO fun hHeld => ?_
      clear hK K; refine zn ?_; refine zp 9 26 ?_
      refine done_ (done_of HT_.out (by kernel_rfl)) ?_
      try go_wp2
      go_ret
      exact ⟨zE, zB⟩
     obtain rfl := zm H
     go_wp2
     go_ret
     exact ⟨zE, zB⟩
/-! ### laws_eqPack: function 20 -/
mutual
def laws_eqPack.j0 : Nat → ByteArray → List ByteArray → List (S30) → List (S93) → ByteArray → List ByteArray → List (S30) → List (S93) → Option (Bool)
 | 0, _, _, _, _, _, _, _, _ => none
 | k + 1, a6, a0, a1, a2, a7, a3, a4, a5 => (laws_eqStringS.f k a0 a3).bind fun a8 => (if a8 = true then (laws_eqPack.j1 k a6 a0 a1 a2 a7 a3 a4 a5) else (some false))
def laws_eqPack.j1 : Nat → ByteArray → List ByteArray → List (S30) → List (S93) → ByteArray → List ByteArray → List (S30) → List (S93) → Option (Bool)
 | 0, _, _, _, _, _, _, _, _ => none
 | k + 1, a6, a0, a1, a2, a7, a3, a4, a5 => (laws_eqNeedS.f k a1 a4).bind fun a9 => (if a9 = true then ((laws_eqCmdS.f k a2 a5).bind fun b0 => (if b0 = true then (some true) else (some false))) else (some false))
end
def laws_eqPack.f (k : Nat) (a0 : ByteArray) (a2 : List ByteArray) (a3 : List (S30)) (a4 : List (S93)) (a1 : ByteArray) (a5 : List ByteArray) (a6 : List (S30)) (a7 : List (S93)) : Option (Bool) := if a0.toList = a1.toList then (laws_eqPack.j0 k a0 a2 a3 a4 a1 a5 a6 a7) else (some false)
theorem laws_eqPack.calls (k : Nat) (b2 : ByteArray) (b9 : Option Addr) (c0 : Nat) (a6 : List ByteArray) (a8 : Option Addr) (a9 : Nat) (a2 : List (S30)) (b3 : Option Addr) (b4 : Nat) (a4 : List (S93)) (b5 : ByteArray) (c3 : Option Addr) (c4 : Nat) (a7 : List ByteArray) (b0 : Option Addr) (b1 : Nat) (a3 : List (S30)) (b6 : Option Addr) (b7 : Nat) (a5 : List (S93)) (r : Bool) (w : World) (d9 : Kd.C Kd.string w b9 a6.length a6) (e0 : a6.length ≤ c0) (e1 : Kd.C k30 w a8 a2.length a2) (e2 : a2.length ≤ a9) (e3 : Kd.C k93 w b3 a4.length a4) (e4 : a4.length ≤ b4) (e5 : Kd.C Kd.string w c3 a7.length a7) (e6 : a7.length ≤ c4) (e7 : Kd.C k30 w b0 a3.length a3) (e8 : a3.length ≤ b1) (e9 : Kd.C k93 w b6 a5.length a5) (f0 : a5.length ≤ b7) (h : laws_eqPack.f k b2 a6 a2 a4 b5 a7 a3 a5 = some r) :
  Calls Tryz.prog 20 #[.agg #[.string b2, .slice b9 a6.length c0, .slice a8 a2.length a9, .slice b3 a4.length b4], .agg #[.string b5, .slice c3 a7.length c4, .slice b0 a3.length b1, .slice b6 a5.length b7]] w fun e w' => e = .returned (.bool r) ∧ Below w.heap.size w w' := by
 have k3 := Tryz.underlying45
 have h8 := zA d9
 have h9 := zA e0
 clear d9 e0
 have d1 := zA e1
 have d2 := zA e2
 clear e1 e2
 have f1 := zA e3
 have f2 := zA e4
 clear e3 e4
 have i0 := zA e5
 have i1 := zA e6
 clear e5 e6
 have d3 := zA e7
 have d4 := zA e8
 clear e7 e8
 have f3 := zA e9
 have f4 := zA f0
 clear e9 f0
 have HB := zA (Below.refl w.heap.size w)
 unfold laws_eqPack.f at h
 have H := h
 clear h
 have d5 := zA H
 clear H
 go_enter Tryz.func20, Tryz.ntmps20
 go_upto_if 9 with (first | ((with_reducible refine zd 2 ?_); refine ze 2 45 #[.string b2, .slice b9 a6.length c0, .slice a8 a2.length a9, .slice b3 a4.length b4] ?_; intro f5 hg w4 hbox hb; have a0 := zA (hbox); have k4 := zi HB hg; have k5 := zi HB hg; replace HB := zA (below_step (zB) hb); clear hb hbox hg) | ((with_reducible refine zd 3 ?_); refine ze 3 45 #[.string b5, .slice c3 a7.length c4, .slice b0 a3.length b1, .slice b6 a5.length b7] ?_; intro f6 hg w5 hbox hb; have a1 := zA (hbox); have k6 := zi HB hg; have k7 := zi HB hg; replace HB := zh HB hb; have c7 := zA (zL hg (zK a0.out)); have c8 := zA (zJ hg (zK a0.out)); replace a0 := zb a0 hb; clear hb hbox hg; have k8 := c7.out; have k9 := c8.out; obtain ⟨f7, f8, f9, g0, g1, g2, g3, g4⟩ := ze4 a0.out; obtain ⟨g5, g6, g7, g8, g9, h0, h1, h2⟩ := ze4 a1.out))
 (try simp only [Act.put, zT])
 go_cut [] (fun wc => ∃ (kq : Nat), Aside0 (laws_eqPack.j0 kq b2 a6 a2 a4 b5 a7 a3 a5 = some r) ∧ Aside0 (kq ≤ k) ∧ Aside0 (wc.heap[f5]? = some (.cells #[.string b2, (.slice b9 a6.length c0), (.slice a8 a2.length a9), (.slice b3 a4.length b4)] 45 (0, 0))) ∧ Aside0 (wc.heap[f6]? = some (.cells #[.string b5, (.slice c3 a7.length c4), (.slice b0 a3.length b1), (.slice b6 a5.length b7)] 45 (0, 0))) ∧ Aside0 (Below w.heap.size w wc))
 case first =>
  have H := d5.out; clear d5; replace H := zI1 H
  rcases H with ⟨c9, H⟩ | ⟨c9, H⟩
  ·have b8 := beq_iff_eq.mpr c9; have d6 := bne_eq_false_iff_eq.mpr c9; clear c9
   (first | rw [b8] | (simp only [i64_w, i32_w]; rw [b8]) | skip)
   have H' := zA H; clear H
   go_wp2
   go_meet
   case rel => exact ⟨_, (by first | exact H' | (subst_vars; exact H')), ⟨by first | omega | exact Nat.le_refl _⟩, ⟨zK a0.out⟩, ⟨zK a1.out⟩, ⟨zW HB.out⟩⟩
  have b8 := beq_eq_false_iff_ne.mpr c9; have d6 := bne_iff_ne.mpr c9
  (first | rw [b8] | (simp only [i64_w, i32_w]; rw [b8]) | skip)
  obtain rfl := zm H
  go_wp2
  go_ret
  exact ⟨zE, zW HB.out⟩
 case rest =>
  clear d5
  try clear c1
  try clear c2
  try clear p2
  try clear c6
  try clear c9
  try clear b8
  try clear d6
  try clear f7 f8 f9 g0 g1 g2 g3 g4
  try clear g5 g6 g7 g8 g9 h0 h1 h2
  obtain ⟨kq, HA, i2, a0, a1, HB⟩ := hcut
  cases kq with
  | zero => exact absurd HA.out (by simp [laws_eqPack.j0])
  | succ h3 =>
   have H := HA.out; clear HA; simp only [laws_eqPack.j0] at H; replace H := Option.bind_eq_some_iff.mp H; obtain ⟨i3, h4, H⟩ := H
   try dsimp only at H
   have i4 := zA h4; clear h4; have d7 := zA H; clear H; have l0 := c7.out; have l1 := c8.out; obtain ⟨i5, i6, i7, i8, i9, j2, j3, j4⟩ := ze4 a0.out; obtain ⟨j5, j6, j7, j8, j9, k0, k1, k2⟩ := ze4 a1.out
   go_upto_if 15 with (first | ((with_reducible refine zq 50 ?_); refine zg (some 14) Tryz.func50 #[.slice b9 a6.length c0, .slice c3 a7.length c4] ?_; (with_reducible refine (laws_eqStringS.calls h3 _ _ a6 _ _ a7 i3 _ ?s1 ?s2 ?s3 ?s4 i4.out).mono ?_); (case s1 => exact zC (Kd.C_below h8.out HB.out)); (case s2 => exact h9.out); (case s3 => exact zC (Kd.C_below i0.out HB.out)); (case s4 => exact i1.out); rintro e w' ⟨rfl, ⟨nd, rfl⟩⟩; refine ⟨_, rfl, ?_⟩))
   (try simp only [Act.put, zT])
   go_cut [] (fun wc => ∃ (kq : Nat), Aside0 (laws_eqPack.j1 kq b2 a6 a2 a4 b5 a7 a3 a5 = some r) ∧ Aside0 (kq ≤ h3) ∧ Aside0 (wc.heap[f5]? = some (.cells #[.string b2, (.slice b9 a6.length c0), (.slice a8 a2.length a9), (.slice b3 a4.length b4)] 45 (0, 0))) ∧ Aside0 (wc.heap[f6]? = some (.cells #[.string b5, (.slice c3 a7.length c4), (.slice b0 a3.length b1), (.slice b6 a5.length b7)] 45 (0, 0))) ∧ Aside0 (Below w.heap.size w wc))
   case first =>
    have H := d7.out; clear d7; replace H := zB0 H
    rcases H with ⟨rfl, H⟩ | ⟨rfl, H⟩
    ·have H' := zA H; clear H
     go_wp2
     go_meet
     case rel => exact ⟨_, (by first | exact H' | (subst_vars; exact H')), ⟨by have := i2.out; first | omega | exact Nat.le_refl _⟩, ⟨zK a0.out⟩, ⟨zK a1.out⟩, ⟨zW HB.out⟩⟩
    obtain rfl := zm H
    go_wp2
    go_ret
    exact ⟨zE, zW HB.out⟩
   case rest =>
    clear d7
    try clear c1
    try clear c2
    try clear p2
    try clear c5
    try clear c6
    try clear c9
    try clear b8
    try clear d6
    try clear c12
    try clear c15
    try clear i5 i6 i7 i8 i9 j2 j3 j4
    try clear j5 j6 j7 j8 j9 k0 k1 k2
    try clear f7 f8 f9 g0 g1 g2 g3 g4
    try clear g5 g6 g7 g8 g9 h0 h1 h2
    try clear p2
    obtain ⟨kq, HA, l2, a0, a1, HB⟩ := hcut
    cases kq with
    | zero => exact absurd HA.out (by simp [laws_eqPack.j1])
    | succ d0 =>
     have H := HA.out; clear HA; simp only [laws_eqPack.j1] at H; replace H := Option.bind_eq_some_iff.mp H; obtain ⟨l3, h5, H⟩ := H
     try dsimp only at H
     have d8 := zA h5; clear h5; replace H := zB0 H
     rcases H with ⟨rfl, H⟩ | ⟨rfl, H⟩
     ·replace H := Option.bind_eq_some_iff.mp H; obtain ⟨l4, h6, H⟩ := H
      try dsimp only at H
      have h7 := zA h6; clear h6; replace H := zB0 H
      rcases H with ⟨rfl, H⟩ | ⟨rfl, H⟩
      ·obtain rfl := zm H; have l5 := c7.out; have l6 := c8.out; obtain ⟨l7, l8, l9, m0, m1, m2, m3, m4⟩ := ze4 a0.out; obtain ⟨m5, m6, m7, m8, m9, n0, n1, n2⟩ := ze4 a1.out
       go_wp2_with (first | ((with_reducible refine zq 65 ?_); refine zg (some 20) Tryz.func65 #[.slice a8 a2.length a9, .slice b0 a3.length b1] ?_; (with_reducible refine (laws_eqNeedS.calls d0 _ _ a2 _ _ a3 true _ ?s1 ?s2 ?s3 ?s4 d8.out).mono ?_); (case s1 => exact zC (Kd.C_below d1.out HB.out)); (case s2 => exact d2.out); (case s3 => exact zC (Kd.C_below d3.out HB.out)); (case s4 => exact d4.out); rintro e n3 ⟨rfl, hb⟩; refine ⟨_, rfl, ?_⟩; replace a0 := zb a0 hb; replace a1 := zb a1 hb; replace HB := zh HB hb; (try clear hb); obtain ⟨n4, n5, n6, n7, n8, n9, o0, o1⟩ := ze4 a0.out; obtain ⟨o2, o3, o4, o5, o6, o7, o8, o9⟩ := ze4 a1.out) | ((with_reducible refine zq 66 ?_); refine zg (some 26) Tryz.func66 #[.slice b3 a4.length b4, .slice b6 a5.length b7] ?_; (with_reducible refine (laws_eqCmdS.calls d0 _ _ a4 _ _ a5 true _ ?s1 ?s2 ?s3 ?s4 h7.out).mono ?_); (case s1 => exact zC (Kd.C_below f1.out HB.out)); (case s2 => exact f2.out); (case s3 => exact zC (Kd.C_below f3.out HB.out)); (case s4 => exact f4.out); rintro e p0 ⟨rfl, hb⟩; refine ⟨_, rfl, ?_⟩; replace a0 := zb a0 hb; replace a1 := zb a1 hb; replace HB := zh HB hb; (try clear hb)))
       go_ret
       exact ⟨zE, zW HB.out⟩
      obtain rfl := zm H; have p1 := c7.out; have p3 := c8.out; obtain ⟨p4, p5, p6, p7, p8, p9, q0, q1⟩ := ze4 a0.out; obtain ⟨q2, q3, q4, q5, q6, q7, q8, q9⟩ := ze4 a1.out
      go_wp2_with (first | ((with_reducible refine zq 65 ?_); refine zg (some 20) Tryz.func65 #[.slice a8 a2.length a9, .slice b0 a3.length b1] ?_; (with_reducible refine (laws_eqNeedS.calls d0 _ _ a2 _ _ a3 true _ ?s1 ?s2 ?s3 ?s4 d8.out).mono ?_); (case s1 => exact zC (Kd.C_below d1.out HB.out)); (case s2 => exact d2.out); (case s3 => exact zC (Kd.C_below d3.out HB.out)); (case s4 => exact d4.out); rintro e r0 ⟨rfl, hb⟩; refine ⟨_, rfl, ?_⟩; replace a0 := zb a0 hb; replace a1 := zb a1 hb; replace HB := zh HB hb; (try clear hb); obtain ⟨r1, r2, r3, r4, r5, r6, r7, r8⟩ := ze4 a0.out; obtain ⟨r9, t0, t1, t2, t3, t4, t5, t6⟩ := ze4 a1.out) | ((with_reducible refine zq 66 ?_); refine zg (some 26) Tryz.func66 #[.slice b3 a4.length b4, .slice b6 a5.length b7] ?_; (with_reducible refine (laws_eqCmdS.calls d0 _ _ a4 _ _ a5 false _ ?s1 ?s2 ?s3 ?s4 h7.out).mono ?_); (case s1 => exact zC (Kd.C_below f1.out HB.out)); (case s2 => exact f2.out); (case s3 => exact zC (Kd.C_below f3.out HB.out)); (case s4 => exact f4.out); rintro e t7 ⟨rfl, hb⟩; refine ⟨_, rfl, ?_⟩; replace a0 := zb a0 hb; replace a1 := zb a1 hb; replace HB := zh HB hb; (try clear hb)))
      go_ret
      exact ⟨zE, zW HB.out⟩
     obtain rfl := zm H; have t8 := c7.out; have t9 := c8.out; obtain ⟨v0, v1, v2, v3, v4, v5, v6, v7⟩ := ze4 a0.out; obtain ⟨v8, v9, x0, x1, x2, x3, x4, x5⟩ := ze4 a1.out
     go_wp2_with (first | ((with_reducible refine zq 65 ?_); refine zg (some 20) Tryz.func65 #[.slice a8 a2.length a9, .slice b0 a3.length b1] ?_; (with_reducible refine (laws_eqNeedS.calls d0 _ _ a2 _ _ a3 false _ ?s1 ?s2 ?s3 ?s4 d8.out).mono ?_); (case s1 => exact zC (Kd.C_below d1.out HB.out)); (case s2 => exact d2.out); (case s3 => exact zC (Kd.C_below d3.out HB.out)); (case s4 => exact d4.out); rintro e x6 ⟨rfl, hb⟩; refine ⟨_, rfl, ?_⟩; replace a0 := zb a0 hb; replace a1 := zb a1 hb; replace HB := zh HB hb; (try clear hb)))
     go_ret
     exact ⟨zE, zW HB.out⟩
/-! ### laws_eqPackS: function 30 -/
mutual
def laws_eqPackS.j0 : Nat → List (S45) → List (S45) → Option (Bool)
 | 0, _, _ => none
 | k + 1, x0, x1 => laws_eqPackS.l0 k x0 x1 0
def laws_eqPackS.l0 : Nat → List (S45) → List (S45) → Int → Option (Bool)
 | 0, _, _, _ => none
 | k + 1, x0, x1, x5 => if x5 < (x0.length : Int) then (if 0 ≤ x5 then (if x5 < (x1.length : Int) then ((laws_eqPack.f k ((rd_T45 x0 x5).f0) ((rd_T45 x0 x5).f1) ((rd_T45 x0 x5).f2) ((rd_T45 x0 x5).f3) ((rd_T45 x1 x5).f0) ((rd_T45 x1 x5).f1) ((rd_T45 x1 x5).f2) ((rd_T45 x1 x5).f3)).bind fun a0 => (if a0 = true then (laws_eqPackS.l0 k x0 x1 (wrap64 (x5 + 1))) else (some false))) else (none)) else (none)) else (some true)
end
def laws_eqPackS.f (k : Nat) (l0 : List (S45)) (l1 : List (S45)) : Option (Bool) := if (l0.length : Int) = (l1.length : Int) then (laws_eqPackS.j0 k l0 l1) else (some false)
def laws_eqPackS.T6 : Bool × List (List Nat × List Nat) := (true, [([], []), ([], []), ([0, 1], [0, 1]), ([2], [2]), ([], []), ([], []), ([4, 5], [4, 5]), ([6], [6]), ([3, 7], [3, 7]), ([8], [8])])
def laws_eqPackS.B6 : List Nat := [0, 0, 3, 7, 0, 0, 48, 112, 255, 511]
theorem laws_eqPackS.tab6 : rtab .any (opsOf Tryz.f30 6) = laws_eqPackS.T6 := by kernel_rfl
theorem laws_eqPackS.bits6 : waitsOk laws_eqPackS.T6.2 laws_eqPackS.B6 = true := by kernel_rfl
theorem laws_eqPackS.calls (k : Nat) (A0 : Option Addr) (c0 : Nat) (l0 : List (S45)) (A1 : Option Addr) (c1 : Nat) (l1 : List (S45)) (r : Bool) (w : World) (g5 : Kd.C k45 w A0 l0.length l0) (g6 : l0.length ≤ c0) (g7 : Kd.C k45 w A1 l1.length l1) (g8 : l1.length ≤ c1) (h : laws_eqPackS.f k l0 l1 = some r) :
  Calls Tryz.prog 30 #[.slice A0 l0.length c0, .slice A1 l1.length c1] w fun e w' => e = .returned (.bool r) ∧ Below w.heap.size w w' := by
 have i4 := Tryz.underlying45
 have g9 := zA g5
 have i5 := zA g6
 clear g5 g6
 have h0 := zA g7
 have i6 := zA g8
 clear g7 g8
 have HB := zA (Below.refl w.heap.size w)
 unfold laws_eqPackS.f at h
 have H := h
 clear h
 have f4 := zA H
 clear H
 go_enter Tryz.func30, Tryz.ntmps30
 go_upto_if 10 with (fail)
 go_cut [] (fun wc => ∃ (kq : Nat), Aside0 (laws_eqPackS.j0 kq l0 l1 = some r) ∧ Aside0 (kq ≤ k) ∧ Aside0 (Below w.heap.size w wc))
 case first =>
  have H := f4.out; clear f4; replace H := zI1 H
  rcases H with ⟨c4, H⟩ | ⟨c4, H⟩
  ·have b1 := beq_iff_eq.mpr c4; have f5 := bne_eq_false_iff_eq.mpr c4
   have f6 : (l0.length == l1.length) = true := by first | simpa using c4 | (simp at c4 ⊢; omega)
   clear c4
   (first | rw [b1] | (simp only [i64_w, i32_w]; rw [b1]) | skip)
   have H' := zA H; clear H
   go_wp2
   go_meet
   case rel => exact ⟨_, (by first | exact H' | (subst_vars; exact H')), ⟨by first | omega | exact Nat.le_refl _⟩, ⟨zB⟩⟩
  have b1 := beq_eq_false_iff_ne.mpr c4; have f5 := bne_iff_ne.mpr c4
  have f6 : (l0.length == l1.length) = false := by first | simpa using c4 | (simp at c4 ⊢; omega)
  (first | rw [b1] | (simp only [i64_w, i32_w]; rw [b1]) | skip)
  obtain rfl := zm H
  go_wp2
  go_ret
  exact ⟨zE, zB⟩
 case rest =>
  clear f4
  try clear c1
  try clear p2
  try clear c3
  try clear c4
  try clear b1
  try clear f5
  try clear f6
  obtain ⟨kq, HA, h1, HB⟩ := hcut
  cases kq with
  | zero => exact absurd HA.out (by simp [laws_eqPackS.j0])
  | succ h2 =>
   have H := HA.out; clear HA; simp only [laws_eqPackS.j0] at H; have H' := zA H; clear H
   go_wp2
   go_loopg [5] h2 (fun kq v5 w' => ∃ (a0 : Int), v5 = .int .i64 a0 ∧ Aside0 (laws_eqPackS.l0 kq l0 l1 a0 = some r) ∧ Aside0 (kq ≤ h2) ∧ Aside0 (Below w.heap.size w w'))
   case atStart => exact ⟨(0), zS, H', ⟨Nat.le_refl _⟩, ⟨zB⟩⟩
   case round =>
    clear H'
    try clear c1
    try clear p2
    try clear c3
    try clear c4
    try clear b1
    try clear f5
    try clear f6
    try clear p2
    obtain ⟨a0, rfl, HA, h3, HB⟩ := hrel
    cases gk with
    | zero => exact absurd HA.out (by simp [laws_eqPackS.l0])
    | succ k2 =>
     have H := HA.out; clear HA; simp only [laws_eqPackS.l0] at H; replace H := zI0 H
     rcases H with ⟨h5, H⟩ | ⟨h5, H⟩
     ·replace H := zD0 H; obtain ⟨i7, H⟩ := H; replace H := zD0 H; obtain ⟨i8, H⟩ := H; replace H := Option.bind_eq_some_iff.mp H; obtain ⟨i9, h4, H⟩ := H
      try dsimp only at H
      have A8 := zA h4; clear h4; replace H := zB0 H
      rcases H with ⟨rfl, H⟩ | ⟨rfl, H⟩
      ·have H' := zA H; clear H
       try go_wp2
       replace HB := zA (below_drew1 HB.out); have b2 : 0 ≤ (a0 : Int) := zD; have b3 : a0 < (l0.length : Int) := zD; obtain ⟨a1, b6, b7, b8, b9, c2, c5, f7, a3, a4, a5, a6, c6, c7, c8, c9, d0, d1⟩ := at_T45 g9.out a0 b2 b3; have h6 := a6; have h7 := a5; have h8 := a4; have h9 := a3; cases f7; replace a3 := zx HB a3; replace a4 := zx HB a4; replace a5 := zx HB a5; replace a6 := zx HB a6; have d2 := zA c7; have f8 := zA c6; clear c7 c6; have d3 := zA c9; have f9 := zA c8; clear c9 c8; have d4 := zA d1; have g0 := zA d0; clear d1 d0; replace b2 := eq_true b2; replace b3 := eq_true b3; have b4 : 0 ≤ (a0 : Int) := zD; have b5 : a0 < (l1.length : Int) := zD; obtain ⟨a2, d5, d6, d7, d8, d9, e0, g1, a7, a8, a9, b0, e1, e2, e3, e4, e5, e6⟩ := at_T45 h0.out a0 b4 b5; have i0 := b0; have i1 := a9; have i2 := a8; have i3 := a7; cases g1; replace a7 := zx HB a7; replace a8 := zx HB a8; replace a9 := zx HB a9; replace b0 := zx HB b0; have e7 := zA e2; have g2 := zA e1; clear e2 e1; have e8 := zA e4; have g3 := zA e3; clear e4 e3; have e9 := zA e6; have g4 := zA e5; clear e6 e5; replace b4 := eq_true b4; replace b5 := eq_true b5
       refine start_ (n := 10) (S := fun w' => w'.cell? (a1.add ((a0).toNat * 4)) = some (.string ((rd_T45 l0 a0).f0)) ∧ w'.cell? ⟨(a1.add ((a0).toNat * 4)).block, (a1.add ((a0).toNat * 4)).off + 1, none⟩ = some (.slice b6 ((rd_T45 l0 a0).f1).length b7) ∧ w'.cell? ⟨(a1.add ((a0).toNat * 4)).block, (a1.add ((a0).toNat * 4)).off + 2, none⟩ = some (.slice b8 ((rd_T45 l0 a0).f2).length b9) ∧ w'.cell? ⟨(a1.add ((a0).toNat * 4)).block, (a1.add ((a0).toNat * 4)).off + 3, none⟩ = some (.slice c2 ((rd_T45 l0 a0).f3).length c5) ∧ w'.cell? (a2.add ((a0).toNat * 4)) = some (.string ((rd_T45 l1 a0).f0)) ∧ w'.cell? ⟨(a2.add ((a0).toNat * 4)).block, (a2.add ((a0).toNat * 4)).off + 1, none⟩ = some (.slice d5 ((rd_T45 l1 a0).f1).length d6) ∧ w'.cell? ⟨(a2.add ((a0).toNat * 4)).block, (a2.add ((a0).toNat * 4)).off + 2, none⟩ = some (.slice d7 ((rd_T45 l1 a0).f2).length d8) ∧ w'.cell? ⟨(a2.add ((a0).toNat * 4)).block, (a2.add ((a0).toNat * 4)).off + 3, none⟩ = some (.slice d9 ((rd_T45 l1 a0).f3).length e0)) (ds := []) (Array.replicate 10 false) (by kernel_rfl) rfl rfl zO fun hHeld => ?_; refine with_tabW laws_eqPackS.tab6 laws_eqPackS.bits6 (fun HT_ HW_ => ?_)
       generalize wr.drew = j1 at HB d2 d3 d4 e7 e8 e9 a3 a4 a5 a6 a7 a8 a9 b0 hHeld ⊢; refine zp 0 17 ?_; refine zp 1 18 ?_; refine zp 2 19 ?_; refine zp 4 21 ?_; refine zp 5 22 ?_; refine zp 6 23 ?_; refine zt 3 20 ?_; refine zt 7 24 ?_
       refine zo 8 (some 25) fun K hK => ?_
       refine goes_ Tryz.func20 (by kernel_rfl) rfl #[.agg #[.string ((rd_T45 l0 a0).f0), .slice b6 ((rd_T45 l0 a0).f1).length b7, .slice b8 ((rd_T45 l0 a0).f2).length b9, .slice c2 ((rd_T45 l0 a0).f3).length c5], .agg #[.string ((rd_T45 l1 a0).f0), .slice d5 ((rd_T45 l1 a0).f1).length d6, .slice d7 ((rd_T45 l1 a0).f2).length d8, .slice d9 ((rd_T45 l1 a0).f3).length e0]] (by rfl) rfl rfl zM ?_
       with_reducible refine (laws_eqPack.calls k2 ((rd_T45 l0 a0).f0) _ _ ((rd_T45 l0 a0).f1) _ _ ((rd_T45 l0 a0).f2) _ _ ((rd_T45 l0 a0).f3) ((rd_T45 l1 a0).f0) _ _ ((rd_T45 l1 a0).f1) _ _ ((rd_T45 l1 a0).f2) _ _ ((rd_T45 l1 a0).f3) true _ ?s1 ?s2 ?s3 ?s4 ?s5 ?s6 ?s7 ?s8 ?s9 ?side10 ?side11 ?side12 A8.out).mono ?_
       (case s1 => exact zC (Kd.C_below d2.out HB.out))
       (case s2 => exact f8.out)
       (case s3 => exact zC (Kd.C_below d3.out HB.out))
       (case s4 => exact f9.out)
       (case s5 => exact zC (Kd.C_below d4.out HB.out))
       (case s6 => exact g0.out)
       (case s7 => exact zC (Kd.C_below e7.out HB.out))
       (case s8 => exact g2.out)
       (case s9 => exact zC (Kd.C_below e8.out HB.out))
       (case side10 => exact g3.out)
       (case side11 => exact zC (Kd.C_below e9.out HB.out))
       (case side12 => exact g4.out)
       rintro e j2 ⟨rfl, hb⟩
       refine ⟨_, rfl, ?_⟩
       replace HB := zA (below_step (zB) hb)
       (try clear hb)
       refine hK.out _ _ zO fun hHeld => ?_
       clear hK K; refine zn ?_; refine zp 9 26 ?_
       refine done_ (done_of HT_.out (by kernel_rfl)) ?_
       try go_wp2
       go_roundg k2
       case measure => have := h1.out; have := h3.out; omega
       case rel => exact ⟨(wrap64 (a0 + 1)), zS, H', ⟨by have := h1.out; have := h3.out; omega⟩, ⟨zB⟩⟩
      obtain rfl := zm H
      try go_wp2
      replace HB := zA (below_drew1 HB.out); have b2 : 0 ≤ (a0 : Int) := zD; have b3 : a0 < (l0.length : Int) := zD; obtain ⟨a1, b6, b7, b8, b9, c2, c5, f7, a3, a4, a5, a6, c6, c7, c8, c9, d0, d1⟩ := at_T45 g9.out a0 b2 b3; have h6 := a6; have h7 := a5; have h8 := a4; have h9 := a3; cases f7; replace a3 := zx HB a3; replace a4 := zx HB a4; replace a5 := zx HB a5; replace a6 := zx HB a6; have d2 := zA c7; have f8 := zA c6; clear c7 c6; have d3 := zA c9; have f9 := zA c8; clear c9 c8; have d4 := zA d1; have g0 := zA d0; clear d1 d0; replace b2 := eq_true b2; replace b3 := eq_true b3; have b4 : 0 ≤ (a0 : Int) := zD; have b5 : a0 < (l1.length : Int) := zD; obtain ⟨a2, d5, d6, d7, d8, d9, e0, g1, a7, a8, a9, b0, e1, e2, e3, e4, e5, e6⟩ := at_T45 h0.out a0 b4 b5; have i0 := b0; have i1 := a9; have i2 := a8; have i3 := a7; cases g1; replace a7 := zx HB a7; replace a8 := zx HB a8; replace a9 := zx HB a9; replace b0 := zx HB b0; have e7 := zA e2; have g2 := zA e1; clear e2 e1; have e8 := zA e4; have g3 := zA e3; clear e4 e3; have e9 := zA e6; have g4 := zA e5; clear e6 e5; replace b4 := eq_true b4; replace b5 := eq_true b5
      refine start_ (n := 10) (S := fun w' => w'.cell? (a1.add ((a0).toNat * 4)) = some (.string ((rd_T45 l0 a0).f0)) ∧ w'.cell? ⟨(a1.add ((a0).toNat * 4)).block, (a1.add ((a0).toNat * 4)).off + 1, none⟩ = some (.slice b6 ((rd_T45 l0 a0).f1).length b7) ∧ w'.cell? ⟨(a1.add ((a0).toNat * 4)).block, (a1.add ((a0).toNat * 4)).off + 2, none⟩ = some (.slice b8 ((rd_T45 l0 a0).f2).length b9) ∧ w'.cell? ⟨(a1.add ((a0).toNat * 4)).block, (a1.add ((a0).toNat * 4)).off + 3, none⟩ = some (.slice c2 ((rd_T45 l0 a0).f3).length c5) ∧ w'.cell? (a2.add ((a0).toNat * 4)) = some (.string ((rd_T45 l1 a0).f0)) ∧ w'.cell? ⟨(a2.add ((a0).toNat * 4)).block, (a2.add ((a0).toNat * 4)).off + 1, none⟩ = some (.slice d5 ((rd_T45 l1 a0).f1).length d6) ∧ w'.cell? ⟨(a2.add ((a0).toNat * 4)).block, (a2.add ((a0).toNat * 4)).off + 2, none⟩ = some (.slice d7 ((rd_T45 l1 a0).f2).length d8) ∧ w'.cell? ⟨(a2.add ((a0).toNat * 4)).block, (a2.add ((a0).toNat * 4)).off + 3, none⟩ = some (.slice d9 ((rd_T45 l1 a0).f3).length e0)) (ds := []) (Array.replicate 10 false) (by kernel_rfl) rfl rfl zO fun hHeld => ?_; refine with_tabW laws_eqPackS.tab6 laws_eqPackS.bits6 (fun HT_ HW_ => ?_)
      generalize wr.drew = j3 at HB d2 d3 d4 e7 e8 e9 a3 a4 a5 a6 a7 a8 a9 b0 hHeld ⊢; refine zp 0 17 ?_; refine zp 1 18 ?_; refine zp 2 19 ?_; refine zp 4 21 ?_; refine zp 5 22 ?_; refine zp 6 23 ?_; refine zt 3 20 ?_; refine zt 7 24 ?_
      refine zo 8 (some 25) fun K hK => ?_
      refine goes_ Tryz.func20 (by kernel_rfl) rfl #[.agg #[.string ((rd_T45 l0 a0).f0), .slice b6 ((rd_T45 l0 a0).f1).length b7, .slice b8 ((rd_T45 l0 a0).f2).length b9, .slice c2 ((rd_T45 l0 a0).f3).length c5], .agg #[.string ((rd_T45 l1 a0).f0), .slice d5 ((rd_T45 l1 a0).f1).length d6, .slice d7 ((rd_T45 l1 a0).f2).length d8, .slice d9 ((rd_T45 l1 a0).f3).length e0]] (by rfl) rfl rfl zM ?_
      with_reducible refine (laws_eqPack.calls k2 ((rd_T45 l0 a0).f0) _ _ ((rd_T45 l0 a0).f1) _ _ ((rd_T45 l0 a0).f2) _ _ ((rd_T45 l0 a0).f3) ((rd_T45 l1 a0).f0) _ _ ((rd_T45 l1 a0).f1) _ _ ((rd_T45 l1 a0).f2) _ _ ((rd_T45 l1 a0).f3) false _ ?s1 ?s2 ?s3 ?s4 ?s5 ?s6 ?s7 ?s8 ?s9 ?side10 ?side11 ?side12 A8.out).mono ?_
      (case s1 => exact zC (Kd.C_below d2.out HB.out))
      (case s2 => exact f8.out)
      (case s3 => exact zC (Kd.C_below d3.out HB.out))
      (case s4 => exact f9.out)
      (case s5 => exact zC (Kd.C_below d4.out HB.out))
      (case s6 => exact g0.out)
      (case s7 => exact zC (Kd.C_below e7.out HB.out))
      (case s8 => exact g2.out)
      (case s9 => exact zC (Kd.C_below e8.out HB.out))
      (case side10 => exact g3.out)
      (case side11 => exact zC (Kd.C_below e9.out HB.out))
      (case side12 => exact g4.out)
      rintro e j4 ⟨rfl, hb⟩
      refine ⟨_, rfl, ?_⟩
      replace HB := zA (below_step (zB) hb)
      (try clear hb)
      refine hK.out _ _ zO fun hHeld => ?_
      clear hK K; refine zn ?_; refine zp 9 26 ?_
      refine done_ (done_of HT_.out (by kernel_rfl)) ?_
      try go_wp2
      go_ret
      exact ⟨zE, zB⟩
     obtain rfl := zm H
     go_wp2
     go_ret
     exact ⟨zE, zB⟩
/-! ### laws_FnExactPacksOk: function 6 -/
mutual
def laws_FnExactPacksOk.j0 : Nat → List (S39) → Option (Bool)
 | 0, _ => none
 | k + 1, x0 => (laws_toPackS.f k x0).bind fun a1 => ((spec_PacksOk.f k a1).bind fun a2 => ((laws_toPackS.f k x0).bind fun a0 => ((impl_PacksOk.f k a0).bind fun a3 => (if (a3 != a2) = true then (none) else (laws_FnExactPacksOk.j1 k x0 a0)))))
def laws_FnExactPacksOk.j1 : Nat → List (S39) → List (S45) → Option (Bool)
 | 0, _, _ => none
 | k + 1, x0, x5 => (laws_toPackS.f k x0).bind fun a4 => ((laws_eqPackS.f k x5 a4).bind fun a5 => (if a5 = true then (some true) else (none)))
end
def laws_FnExactPacksOk.f (k : Nat) (l0 : List (S39)) : Option (Bool) := (laws_szPackS.f k l0 1048576).bind fun a0 => (if a0 < 0 then (some true) else (laws_FnExactPacksOk.j0 k l0))
theorem laws_FnExactPacksOk.calls (k : Nat) (A0 : Option Addr) (c0 : Nat) (l0 : List (S39)) (r : Bool) (w : World) (c3 : Kd.C k39 w A0 l0.length l0) (c4 : l0.length ≤ c0) (hG : GW w) (h : laws_FnExactPacksOk.f k l0 = some r) :
  Calls Tryz.prog 6 #[.slice A0 l0.length c0] w fun e w' => e = .returned (.bool r) ∧ Below w.heap.size w w' := by
 have b1 := zA c3
 have b2 := zA c4
 clear c3 c4
 have HG := zA hG
 clear hG
 have HB := zA (Below.refl w.heap.size w)
 unfold laws_FnExactPacksOk.f at h
 have H := h
 clear h
 replace H := Option.bind_eq_some_iff.mp H
 obtain ⟨d5, c7, H⟩ := H
 try dsimp only at H
 have A2 := zA c7
 clear c7
 have b4 := zA H
 clear H
 go_enter Tryz.func6, Tryz.ntmps6
 go_upto_if 11 with (first | ((with_reducible refine zq 26 ?_); refine zg (some 9) Tryz.func26 #[.slice A0 l0.length c0, .int .i64 1048576] ?_; (with_reducible refine (laws_szPackS.calls k _ _ l0 1048576 d5 _ ?s1 ?s2 A2.out).mono ?_); (case s1 => repeat (first | exact b1.out | (with_reducible refine Kd.C_alloc ?_ _) | (with_reducible refine Kd.C_drewN ?_ _) | (with_reducible refine Kd.C_drew ?_))); (case s2 => exact b2.out); rintro e w4 ⟨rfl, hb⟩; refine ⟨_, rfl, ?_⟩; replace HB := zA (below_step (zB) hb); (try clear hb)))
 (try simp only [Act.put, zT])
 go_cut [] (fun wc => ∃ (kq : Nat), Aside0 (laws_FnExactPacksOk.j0 kq l0 = some r) ∧ Aside0 (kq ≤ k) ∧ Aside0 (Below w.heap.size w wc))
 case first =>
  have H := b4.out; clear b4; replace H := zI0 H
  rcases H with ⟨a3, H⟩ | ⟨a3, H⟩
  ·(first | rw [a3] | (simp only [i64_w, i32_w]; rw [a3]) | skip)
   obtain rfl := zm H
   go_wp2
   go_ret
   exact ⟨zE, zB⟩
  (first | rw [a3] | (simp only [i64_w, i32_w]; rw [a3]) | skip)
  have H' := zA H; clear H
  go_wp2
  go_meet
  case rel => exact ⟨_, (by first | exact H' | (subst_vars; exact H')), ⟨by first | omega | exact Nat.le_refl _⟩, ⟨zB⟩⟩
 case rest =>
  clear b4
  try clear c2
  try clear p2
  try clear c5
  try clear a3
  obtain ⟨kq, HA, d6, HB⟩ := hcut
  cases kq with
  | zero => exact absurd HA.out (by simp [laws_FnExactPacksOk.j0])
  | succ a7 =>
   have H := HA.out; clear HA; simp only [laws_FnExactPacksOk.j0] at H; replace H := Option.bind_eq_some_iff.mp H; obtain ⟨b5, c8, H⟩ := H
   try dsimp only at H
   have A6 := zA c8; clear c8; replace H := Option.bind_eq_some_iff.mp H; obtain ⟨a8, c9, H⟩ := H
   try dsimp only at H
   have A7 := zA c9; clear c9; replace H := Option.bind_eq_some_iff.mp H; obtain ⟨a2, d0, H⟩ := H
   try dsimp only at H
   have A8 := zA d0; clear d0; replace H := Option.bind_eq_some_iff.mp H; obtain ⟨a9, d1, H⟩ := H
   try dsimp only at H
   have A9 := zA d1; clear d1; have b6 := zA H; clear H
   go_upto_if 21 with (first | ((with_reducible refine zq 28 ?_); refine zg (some 13) Tryz.func28 #[.slice A0 l0.length c0] ?_; (with_reducible refine (laws_toPackS.calls a7 _ _ l0 b5 _ ?s1 ?s2 A6.out).mono ?_); (case s1 => exact zC (Kd.C_below b1.out HB.out)); (case s2 => exact b2.out); rintro e e8 ⟨e9, rfl, a0, hb⟩; refine ⟨_, rfl, ?_⟩; have a1 := zA (Kd.R_lower a0 (below_size (zB))); replace HB := zA (below_step (zB) hb); (try clear hb a0); obtain ⟨d7, d8, d9⟩ := Kd.R_slice a1.out; subst d9) | ((with_reducible refine zq 27 ?_); refine zg (some 14) Tryz.func27 #[.slice d7 b5.length d8] ?_; (with_reducible refine (spec_PacksOk.calls a7 _ _ b5 a8 _ ?s1 ?s2 A7.out).mono ?_); (case s1 => repeat (first | exact (Kd.R_reads' a1.out).2.2 | (with_reducible refine Kd.C_alloc ?_ _) | (with_reducible refine Kd.C_drewN ?_ _) | (with_reducible refine Kd.C_drew ?_))); (case s2 => exact (Kd.R_reads' a1.out).2.1); rintro e f0 ⟨rfl, hb⟩; refine ⟨_, rfl, ?_⟩; replace a1 := zr a1 hb; replace HB := zA (below_step (zB) hb); (try clear hb)) | ((with_reducible refine zq 28 ?_); refine zg (some 16) Tryz.func28 #[.slice A0 l0.length c0] ?_; (with_reducible refine (laws_toPackS.calls a7 _ _ l0 a2 _ ?s1 ?s2 A8.out).mono ?_); (case s1 => exact zC (Kd.C_below b1.out HB.out)); (case s2 => exact b2.out); rintro e f1 ⟨f2, rfl, a0, hb⟩; refine ⟨_, rfl, ?_⟩; have a5 := zA (Kd.R_lower (Kd.R_new' a0 (Kd.R_lt (zR a1.out))) (below_size (zB))); replace a1 := zA (Kd.R_elder' (zR a1.out) (Kd.R_base a0) hb); replace HB := zA (below_step (zB) hb); (try clear hb a0); obtain ⟨b7, b8, e0⟩ := Kd.R_slice a5.out; subst e0) | ((with_reducible refine zq 29 ?_); refine zg (some 18) Tryz.func29 #[.slice b7 a2.length b8] ?_; (with_reducible refine (impl_PacksOk.calls a7 _ _ a2 a9 _ ?s1 ?s2 ?s3 A9.out).mono ?_); (case s1 => repeat (first | exact (Kd.R_reads' a5.out).2.2 | (with_reducible refine Kd.C_alloc ?_ _) | (with_reducible refine Kd.C_drewN ?_ _) | (with_reducible refine Kd.C_drew ?_))); (case s2 => exact (Kd.R_reads' a5.out).2.1); (case s3 => exact GW.below HG.out (zB)); rintro e f3 ⟨rfl, hb⟩; refine ⟨_, rfl, ?_⟩; replace a1 := zr a1 hb; replace a5 := zr a5 hb; replace HB := zA (below_step (zB) hb); (try clear hb)))
   (try simp only [Act.put, zT])
   go_cut [] (fun wc => ∃ (kq : Nat), Aside0 (laws_FnExactPacksOk.j1 kq l0 a2 = some r) ∧ Aside0 (kq ≤ a7) ∧ Aside0 (Kd.R k45 45 wc w.heap.size (fun _ => True) (.slice b7 a2.length b8) a2) ∧ Aside0 (Below w.heap.size w wc))
   case first =>
    have H := b6.out; clear b6; replace H := zI1 H
    rcases H with ⟨a6, H⟩ | ⟨a6, H⟩
    ·exact absurd H (by simp)
    have b3 : (a9 != a8) = false := by simpa using a6
    (try (have e1 : decide (a9 = a8) = true := by simpa using a6))
    (try (have e2 : (a9 == a8) = true := by simpa using a6))
    clear a6
    (first | rw [b3] | (simp only [i64_w, i32_w]; rw [b3]) | rw [show (!(a9 == a8)) = false from b3] | skip)
    have H' := zA H; clear H
    go_wp2
    go_meet
    case rel => exact ⟨_, (by first | exact H' | (subst_vars; exact H')), ⟨by have := d6.out; first | omega | exact Nat.le_refl _⟩, ⟨zR (Kd.R_mono a5.out (fun _ hk => trivial))⟩, ⟨zB⟩⟩
   case rest =>
    clear b6
    try clear c1
    try clear c2
    try clear p2
    try clear c5
    try clear a3
    try clear c6
    try clear a6
    try clear b3
    try clear e1
    try clear e2
    try clear p2
    obtain ⟨kq, HA, f4, a4, HB⟩ := hcut
    cases kq with
    | zero => exact absurd HA.out (by simp [laws_FnExactPacksOk.j1])
    | succ d2 =>
     have H := HA.out; clear HA; simp only [laws_FnExactPacksOk.j1] at H; replace H := Option.bind_eq_some_iff.mp H; obtain ⟨b9, d3, H⟩ := H
     try dsimp only at H
     have e3 := zA d3; clear d3; replace H := Option.bind_eq_some_iff.mp H; obtain ⟨f5, d4, H⟩ := H
     try dsimp only at H
     have e4 := zA d4; clear d4; replace H := zB0 H
     rcases H with ⟨rfl, H⟩ | ⟨rfl, H⟩
     ·obtain rfl := zm H
      go_wp2_with (first | ((with_reducible refine zq 28 ?_); refine zg (some 24) Tryz.func28 #[.slice A0 l0.length c0] ?_; (with_reducible refine (laws_toPackS.calls d2 _ _ l0 b9 _ ?s1 ?s2 e3.out).mono ?_); (case s1 => exact zC (Kd.C_below b1.out HB.out)); (case s2 => exact b2.out); rintro e f6 ⟨f7, rfl, a0, hb⟩; refine ⟨_, rfl, ?_⟩; have b0 := zA (Kd.R_lower (Kd.R_new' a0 (Kd.R_lt (zR a4.out))) (below_size (zB))); replace a4 := zA (Kd.R_elder' (zR a4.out) (Kd.R_base a0) hb); replace HB := zA (below_step (zB) hb); (try clear hb a0); obtain ⟨e5, e6, e7⟩ := Kd.R_slice b0.out; subst e7) | ((with_reducible refine zq 30 ?_); refine zg (some 25) Tryz.func30 #[.slice b7 a2.length b8, .slice e5 b9.length e6] ?_; (with_reducible refine (laws_eqPackS.calls d2 _ _ a2 _ _ b9 true _ ?s1 ?s2 ?s3 ?s4 e4.out).mono ?_); (case s1 => repeat (first | exact (Kd.R_reads' a4.out).2.2 | (with_reducible refine Kd.C_alloc ?_ _) | (with_reducible refine Kd.C_drewN ?_ _) | (with_reducible refine Kd.C_drew ?_))); (case s2 => exact (Kd.R_reads' a4.out).2.1); (case s3 => repeat (first | exact (Kd.R_reads' b0.out).2.2 | (with_reducible refine Kd.C_alloc ?_ _) | (with_reducible refine Kd.C_drewN ?_ _) | (with_reducible refine Kd.C_drew ?_))); (case s4 => exact (Kd.R_reads' b0.out).2.1); rintro e f8 ⟨rfl, hb⟩; refine ⟨_, rfl, ?_⟩; replace a4 := zr a4 hb; replace b0 := zr b0 hb; replace HB := zA (below_step (zB) hb); (try clear hb)))
      go_ret
      exact ⟨zE, zB⟩
     exact absurd H (by simp)
end Go.Proofs.YtpcdhoeoefoeoaaGreatDoor.PGE
