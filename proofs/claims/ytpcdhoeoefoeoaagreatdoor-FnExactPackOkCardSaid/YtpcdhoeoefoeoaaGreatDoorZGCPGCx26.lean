/- The walks of the functions that these laws reach, and what each comes to: printed by this session's program. -/
import Derived.Test.YtpcdhoeoefoeoaaGreatDoorZGCPGCx0
import Derived.Test.YtpcdhoeoefoeoaaGreatDoorZGCPGCx1
import Derived.Test.YtpcdhoeoefoeoaaGreatDoorZGCPGCx14
import Derived.Test.YtpcdhoeoefoeoaaGreatDoorZGCPGCx23
import Derived.Test.YtpcdhoeoefoeoaaGreatDoorZGCPGCx25
import Derived.Test.YtpcdhoeoefoeoaaGreatDoorZGCSays
import Derived.Test.YtpcdhoeoefoeoaaGreatDoorZGCRegs
namespace Go.Proofs.YtpcdhoeoefoeoaaGreatDoor.PGC
open Go.RowKit YtpcdhoeoefoeoaaGreatDoorW.PrintWords YtpcdhoeoefoeoaaGreatDoorW.PrintLast YtpcdhoeoefoeoaaGreatDoorW.PrintMore
attribute [local go_sem high] Mine.str_gtr Mine.str_leq Mine.str_geq
attribute [local go_sem] max2_int min2_int max_two min_two max_three min_three max_four min_four   -- for this text's walks alone
set_option linter.unusedVariables false
set_option maxHeartbeats 8000000
set_option maxRecDepth 100000
set_option linter.unusedSimpArgs false
/-! ### laws_FnExactPackOk: function 4 -/
mutual
def laws_FnExactPackOk.j0 : Nat → ByteArray → List ByteArray → List (S23) → List (S134) → Option (Bool)
 | 0, _, _, _, _ => none
 | k + 1, a1, a2, a3, a4 => (laws_toPack.f k a1 a2 a3 a4).bind fun a5 => ((spec_PackOk.f k a5.1 a5.2.1 a5.2.2.1 a5.2.2.2).bind fun a7 => ((laws_toPack.f k a1 a2 a3 a4).bind fun a0 => ((impl_PackOk.f k a0.1 a0.2.1 a0.2.2.1 a0.2.2.2).bind fun a8 => (if (a8 != a7) = true then (none) else (laws_FnExactPackOk.j1 k a1 a2 a3 a4 a0.1 a0.2.1 a0.2.2.1 a0.2.2.2)))))
def laws_FnExactPackOk.j1 : Nat → ByteArray → List ByteArray → List (S23) → List (S134) → ByteArray → List ByteArray → List (S30) → List (S93) → Option (Bool)
 | 0, _, _, _, _, _, _, _, _ => none
 | k + 1, a1, a2, a3, a4, a9, b0, b1, b2 => (laws_toPack.f k a1 a2 a3 a4).bind fun a6 => ((laws_eqPack.f k a9 b0 b1 b2 a6.1 a6.2.1 a6.2.2.1 a6.2.2.2).bind fun b3 => (if b3 = true then (some true) else (none)))
end
def laws_FnExactPackOk.f (k : Nat) (a0 : ByteArray) (a1 : List ByteArray) (a2 : List (S23)) (a3 : List (S134)) : Option (Bool) := (laws_szPack.f k a0 a1 a2 a3 1048576).bind fun a4 => (if a4 < 0 then (some true) else (laws_FnExactPackOk.j0 k a0 a1 a2 a3))
theorem laws_FnExactPackOk.calls (k : Nat) (a7 : ByteArray) (b9 : Option Addr) (c0 : Nat) (a2 : List ByteArray) (c3 : Option Addr) (c5 : Nat) (a3 : List (S23)) (c6 : Option Addr) (c8 : Nat) (a4 : List (S134)) (r : Bool) (w : World) (g9 : Kd.C Kd.string w b9 a2.length a2) (h0 : a2.length ≤ c0) (h1 : Kd.C k23 w c3 a3.length a3) (h2 : a3.length ≤ c5) (h3 : Kd.C k134 w c6 a4.length a4) (h4 : a4.length ≤ c8) (hG : GW w) (h : laws_FnExactPackOk.f k a7 a2 a3 a4 = some r) :
  Calls Tryz.prog 4 #[.agg #[.string a7, .slice b9 a2.length c0, .slice c3 a3.length c5, .slice c6 a4.length c8]] w fun e w' => e = .returned (.bool r) ∧ Below w.heap.size w w' := by
 have n9 := Tryz.underlying39
 have o0 := Tryz.underlying45
 have f1 := Aside0.mk g9
 have f2 := Aside0.mk h0
 clear g9 h0
 have f3 := Aside0.mk h1
 have f4 := Aside0.mk h2
 clear h1 h2
 have f5 := Aside0.mk h3
 have f6 := Aside0.mk h4
 clear h3 h4
 have HG := Aside0.mk hG
 clear hG
 have HB := zA (Below.refl w.heap.size w)
 unfold laws_FnExactPackOk.f at h
 have H := h
 clear h
 replace H := zj H
 obtain ⟨j3, A2, H⟩ := H
 try dsimp only at H
 have g0 := Aside0.mk H
 clear H
 go_enter Tryz.func4, Tryz.ntmps4
 go_upto_if 11 with (first | ((with_reducible refine zd 1 ?_); refine ze 1 39 #[.string a7, .slice b9 a2.length c0, .slice c3 a3.length c5, .slice c6 a4.length c8] ?_; intro e0 hg w4 hbox hb; have a0 := zA (hbox); have o1 := zi HB hg; have o2 := zi HB hg; replace HB := zA (below_step (zB) hb); clear hb hbox hg; obtain ⟨h5, h6, h7, h8, h9, i0, i1, i2⟩ := ze4 a0.out) | ((with_reducible refine zq 16 ?_); refine zg (some 9) Tryz.func16 #[.agg #[.string a7, .slice b9 a2.length c0, .slice c3 a3.length c5, .slice c6 a4.length c8], .int .i64 1048576] ?_; (with_reducible refine (laws_szPack.calls k a7 _ _ a2 _ _ a3 _ _ a4 1048576 j3 _ ?side1 ?side2 ?side3 ?side4 ?side5 ?side6 A2.out).mono ?_); (case side1 => exact zC (Kd.C_below f1.out HB.out)); (case side2 => exact f2.out); (case side3 => exact zC (Kd.C_below f3.out HB.out)); (case side4 => exact f4.out); (case side5 => exact zC (Kd.C_below f5.out HB.out)); (case side6 => exact f6.out); rintro e w6 ⟨rfl, hb⟩; refine ⟨_, rfl, ?_⟩; replace a0 := zb a0 hb; replace HB := zh HB hb; (try clear hb)))
 (try simp only [Act.put, zT])
 go_cut [] (fun wc => ∃ (kq : Nat), Aside0 (laws_FnExactPackOk.j0 kq a7 a2 a3 a4 = some r) ∧ Aside0 (kq ≤ k) ∧ Aside0 (wc.heap[e0]? = some (.cells #[.string a7, (.slice b9 a2.length c0), (.slice c3 a3.length c5), (.slice c6 a4.length c8)] 39 (0, 0))) ∧ Aside0 (Below w.heap.size w wc))
 case first =>
  have H := g0.out
  clear g0
  replace H := zI0 H
  rcases H with ⟨d9, H⟩ | ⟨d9, H⟩
  ·(first | rw [d9] | (simp only [i64_w, i32_w]; rw [d9]) | skip)
   obtain rfl := Option.some.inj H
   go_wp2
   go_ret
   exact ⟨zE, zW HB.out⟩
  ·(first | rw [d9] | (simp only [i64_w, i32_w]; rw [d9]) | skip)
   have H' := Aside0.mk H
   clear H
   go_wp2
   go_meet
   case rel => exact ⟨_, (by first | exact H' | (subst_vars; exact H')), ⟨by first | omega | exact Nat.le_refl _⟩, ⟨zK a0.out⟩, ⟨zW HB.out⟩⟩
 case rest =>
  clear g0
  try clear c1
  try clear p2
  try clear c4
  try clear c7
  try clear d9
  try clear h5 h6 h7 h8 h9 i0 i1 i2
  obtain ⟨kq, HA, j4, a0, HB⟩ := hcut
  cases kq with
  | zero => exact absurd HA.out (by simp [laws_FnExactPackOk.j0])
  | succ e2 =>
   have H := HA.out
   clear HA
   simp only [laws_FnExactPackOk.j0] at H
   replace H := zj H
   obtain ⟨⟨g1, e3, f7, f8⟩, A8, H⟩ := H
   try dsimp only at H
   replace H := zj H
   obtain ⟨e4, A9, H⟩ := H
   try dsimp only at H
   replace H := zj H
   obtain ⟨⟨a9, a5, a8, b0⟩, j5, H⟩ := H
   try dsimp only at H
   replace H := zj H
   obtain ⟨e5, j6, H⟩ := H
   try dsimp only at H
   have g2 := Aside0.mk H
   clear H
   obtain ⟨j7, j8, j9, k0, k1, k2, k3, k4⟩ := ze4 a0.out
   go_upto_if 21 with (first | ((with_reducible refine zq 18 ?_); refine zg (some 13) Tryz.func18 #[.agg #[.string a7, .slice b9 a2.length c0, .slice c3 a3.length c5, .slice c6 a4.length c8]] ?_; (with_reducible refine (laws_toPack.calls e2 a7 _ _ a2 _ _ a3 _ _ a4 g1 e3 f7 f8 _ ?side1 ?side2 ?side3 ?side4 ?side5 ?side6 A8.out).mono ?_); (case side1 => exact zC (Kd.C_below f1.out HB.out)); (case side2 => exact f2.out); (case side3 => exact zC (Kd.C_below f3.out HB.out)); (case side4 => exact f4.out); (case side5 => exact zC (Kd.C_below f5.out HB.out)); (case side6 => exact f6.out); rintro e o3 ⟨o4, o5, o6, rfl, b4, c9, d0, hb⟩; refine ⟨_, rfl, ?_⟩; have b2 := zA (Kd.R_lower b4 (below_size (zW HB.out))); have b5 := zA (Kd.R_lower c9 (below_size (zW HB.out))); have b6 := zA (Kd.S_lower d0 (below_size (zW HB.out))); replace a0 := zb a0 hb; replace HB := zh HB hb; (try clear hb b4 c9 d0); obtain ⟨g3, g4, k5⟩ := Kd.R_slice b2.out; subst k5; obtain ⟨i3, i4, k6⟩ := Kd.R_slice b5.out; subst k6; obtain ⟨i5, i6, k7⟩ := Kd.S_slice b6.out; subst k7) | ((with_reducible refine zq 17 ?_); refine zg (some 14) Tryz.func17 #[.agg #[.string g1, .slice g3 e3.length g4, .slice i3 f7.length i4, .slice i5 f8.length i6]] ?_; (with_reducible refine (spec_PackOk.calls e2 g1 _ _ e3 _ _ f7 _ _ f8 e4 _ ?side1 ?side2 ?side3 ?side4 ?side5 ?side6 A9.out).mono ?_); (case side1 => repeat (first | exact (Kd.R_reads' b2.out).2.2 | (with_reducible refine Kd.C_alloc ?_ _) | (with_reducible refine Kd.C_drewN ?_ _) | (with_reducible refine Kd.C_drew ?_))); (case side2 => exact (Kd.R_reads' b2.out).2.1); (case side3 => repeat (first | exact (Kd.R_reads' b5.out).2.2 | (with_reducible refine Kd.C_alloc ?_ _) | (with_reducible refine Kd.C_drewN ?_ _) | (with_reducible refine Kd.C_drew ?_))); (case side4 => exact (Kd.R_reads' b5.out).2.1); (case side5 => repeat (first | exact (Kd.S_reads' b6.out).2.2 | (with_reducible refine Kd.C_alloc ?_ _) | (with_reducible refine Kd.C_drewN ?_ _) | (with_reducible refine Kd.C_drew ?_))); (case side6 => exact (Kd.S_reads' b6.out).2.1); rintro e o7 ⟨rfl, hb⟩; refine ⟨_, rfl, ?_⟩; replace b2 := zr b2 hb; replace b5 := zr b5 hb; replace b6 := zA (Kd.S_below (by (with_reducible repeat (first | apply Kd.S_alloc | apply Kd.S_drewN | apply Kd.S_drew)); exact b6.out) hb); replace a0 := zb a0 hb; replace HB := zh HB hb; (try clear hb); obtain ⟨k8, k9, l0, l1, l2, l3, l4, l5⟩ := ze4 a0.out) | ((with_reducible refine zq 18 ?_); refine zg (some 16) Tryz.func18 #[.agg #[.string a7, .slice b9 a2.length c0, .slice c3 a3.length c5, .slice c6 a4.length c8]] ?_; (with_reducible refine (laws_toPack.calls e2 a7 _ _ a2 _ _ a3 _ _ a4 a9 a5 a8 b0 _ ?side1 ?side2 ?side3 ?side4 ?side5 ?side6 j5.out).mono ?_); (case side1 => exact zC (Kd.C_below f1.out HB.out)); (case side2 => exact f2.out); (case side3 => exact zC (Kd.C_below f3.out HB.out)); (case side4 => exact f4.out); (case side5 => exact zC (Kd.C_below f5.out HB.out)); (case side6 => exact f6.out); rintro e o8 ⟨o9, p0, p1, rfl, b4, c9, d0, hb⟩; refine ⟨_, rfl, ?_⟩; have d6 := zA (Kd.R_lower (Kd.R_new' b4 (Kd.R_lt (zR b2.out))) (below_size (zW HB.out))); have d7 := zA (Kd.R_lower (Kd.R_new' c9 (Kd.R_lt (zR b5.out))) (below_size (zW HB.out))); replace b5 := zA (Kd.R_elder' (zR b5.out) (Kd.R_base c9) hb); have d8 := zA (Kd.S_lower (Kd.S_new' (Kd.S_new' d0 (Kd.R_lt (zR b2.out))) (Kd.S_lt (by (with_reducible repeat (first | apply Kd.S_alloc | apply Kd.S_drewN | apply Kd.S_drew)); exact b6.out))) (below_size (zW HB.out))); replace b2 := zA (Kd.R_elder' (zR b2.out) (Kd.R_base b4) hb); replace b6 := zA (Kd.S_mono (Kd.S_told (Kd.S_told (Kd.S_old (by (with_reducible repeat (first | apply Kd.S_alloc | apply Kd.S_drewN | apply Kd.S_drew)); exact b6.out) hb) (Kd.R_base b4)) (Kd.S_base d0)) (fun _ h_ => h_.1)); replace a0 := zb a0 hb; replace HB := zh HB hb; (try clear hb b4 c9 d0)) | ((with_reducible refine zd 5 ?_); refine ze 5 45 #[.string (⟨#[]⟩ : ByteArray), .slice none 0 0, .slice none 0 0, .slice none 0 0] ?_; intro a6 hg p3 hbox hb; replace b2 := zr b2 hb; replace b5 := zr b5 hb; replace b6 := zA (Kd.S_below (by (with_reducible repeat (first | apply Kd.S_alloc | apply Kd.S_drewN | apply Kd.S_drew)); exact b6.out) hb); replace d6 := zr d6 hb; replace d7 := zr d7 hb; replace d8 := zA (Kd.S_below (by (with_reducible repeat (first | apply Kd.S_alloc | apply Kd.S_drewN | apply Kd.S_drew)); exact d8.out) hb); have a1 := zA (hbox); have p4 := zi HB hg; have p5 := zi HB hg; replace HB := zh HB hb; have l6 := zA (zL hg (zK a0.out)); have l7 := zA (zJ hg (zK a0.out)); replace a0 := zb a0 hb; clear hb hbox hg; have p6 := l7.out; have p7 := l6.out; obtain ⟨l8, l9, m0, m1, m2, m3, m4, m5⟩ := ze4 a1.out; obtain ⟨b3, b1, m6⟩ := Kd.R_slice d6.out; subst m6; obtain ⟨d1, b7, m7⟩ := Kd.R_slice d7.out; subst m7; obtain ⟨d5, d2, m8⟩ := Kd.S_slice d8.out; subst m8) | ((with_reducible refine zq 19 ?_); refine zg (some 18) Tryz.func19 #[.agg #[.string a9, .slice b3 a5.length b1, .slice d1 a8.length b7, .slice d5 b0.length d2]] ?_; (with_reducible refine (impl_PackOk.calls e2 a9 _ _ a5 _ _ a8 _ _ b0 e5 _ ?side1 ?side2 ?side3 ?side4 ?side5 ?side6 ?side7 j6.out).mono ?_); (case side1 => refine (Kd.R_reads' (e := 9) (base := w.heap.size) (ok := fun k_ => (True ∧ some k_ ≠ (.slice g3 e3.length g4 : Value).ownBlock)) (n := a5.length) (c := b1) ?_).2.2; exact (zR (zr4 d6.out a1.out))); (case side2 => exact (Kd.R_reads' d6.out).2.1); (case side3 => refine (Kd.R_reads' (e := 30) (base := w.heap.size) (ok := fun k_ => (True ∧ some k_ ≠ (.slice i3 f7.length i4 : Value).ownBlock)) (n := a8.length) (c := b7) ?_).2.2; exact (zR (zr4 d7.out a1.out))); (case side4 => exact (Kd.R_reads' d7.out).2.1); (case side5 => refine (Kd.S_reads' (e := 93) (base := w.heap.size) (ok := fun k_ => ((some k_ ≠ (.slice b3 a5.length b1 : Value).ownBlock ∧ some k_ ≠ (.slice g3 e3.length g4 : Value).ownBlock) ∧ some k_ ≠ (.slice i5 f8.length i6 : Value).ownBlock)) (n := b0.length) (c := d2) ?_).2.2; exact (by (with_reducible repeat (first | apply Kd.S_alloc | apply Kd.S_drewN | apply Kd.S_drew)); exact (Kd.S_mono (Kd.S_far (p := ⟨a6, 3, none⟩) (Kd.S_far (p := ⟨a6, 2, none⟩) (Kd.S_far (p := ⟨a6, 1, none⟩) (Kd.S_far (p := ⟨a6, 0, none⟩) (Kd.S_types d8.out a1.out (by decide)) (fun _ hk => hk.2) (.string a9)) (fun _ hk => hk.2) (.slice b3 a5.length b1)) (fun _ hk => hk.2) (.slice d1 a8.length b7)) (fun _ hk => hk.2) (.slice d5 b0.length d2)) (fun _ h_ => h_.1)))); (case side6 => exact (Kd.S_reads' d8.out).2.1); (case side7 => exact GW.below HG.out (zW HB.out)); rintro e p8 ⟨rfl, hb⟩; refine ⟨_, rfl, ?_⟩; replace b2 := zA (Kd.R_below (zR (zr4 b2.out a1.out)) hb); replace b5 := zA (Kd.R_below (zR (zr4 b5.out a1.out)) hb); replace b6 := zA (Kd.S_below (by (with_reducible repeat (first | apply Kd.S_alloc | apply Kd.S_drewN | apply Kd.S_drew)); exact (Kd.S_mono (Kd.S_far (p := ⟨a6, 3, none⟩) (Kd.S_far (p := ⟨a6, 2, none⟩) (Kd.S_far (p := ⟨a6, 1, none⟩) (Kd.S_far (p := ⟨a6, 0, none⟩) (Kd.S_types b6.out a1.out (by decide)) (fun _ hk => hk.2) (.string a9)) (fun _ hk => hk.2) (.slice b3 a5.length b1)) (fun _ hk => hk.2) (.slice d1 a8.length b7)) (fun _ hk => hk.2) (.slice d5 b0.length d2)) (fun _ h_ => h_.1))) hb); replace d6 := zA (Kd.R_below (zR (zr4 d6.out a1.out)) hb); replace d7 := zA (Kd.R_below (zR (zr4 d7.out a1.out)) hb); replace d8 := zA (Kd.S_below (by (with_reducible repeat (first | apply Kd.S_alloc | apply Kd.S_drewN | apply Kd.S_drew)); exact (Kd.S_mono (Kd.S_far (p := ⟨a6, 3, none⟩) (Kd.S_far (p := ⟨a6, 2, none⟩) (Kd.S_far (p := ⟨a6, 1, none⟩) (Kd.S_far (p := ⟨a6, 0, none⟩) (Kd.S_types d8.out a1.out (by decide)) (fun _ hk => hk.2) (.string a9)) (fun _ hk => hk.2) (.slice b3 a5.length b1)) (fun _ hk => hk.2) (.slice d1 a8.length b7)) (fun _ hk => hk.2) (.slice d5 b0.length d2)) (fun _ h_ => h_.1))) hb); replace a0 := zb a0 hb; replace a1 := zA (blk_below (g := a6) (o := .cells #[.string a9, .slice b3 a5.length b1, .slice d1 a8.length b7, .slice d5 b0.length d2] 45 (0, 0)) (by (with_reducible repeat (first | refine blk_drewN ?_ _ | refine blk_drew ?_ | refine blk_alloc ?_ _)); refine blk_put (cs := #[.string a9, .slice b3 a5.length b1, .slice d1 a8.length b7, .slice none 0 0]) ?_ 3 _ rfl; (with_reducible repeat (first | refine blk_drewN ?_ _ | refine blk_drew ?_ | refine blk_alloc ?_ _)); refine blk_put (cs := #[.string a9, .slice b3 a5.length b1, .slice none 0 0, .slice none 0 0]) ?_ 2 _ rfl; (with_reducible repeat (first | refine blk_drewN ?_ _ | refine blk_drew ?_ | refine blk_alloc ?_ _)); refine blk_put (cs := #[.string a9, .slice none 0 0, .slice none 0 0, .slice none 0 0]) ?_ 1 _ rfl; (with_reducible repeat (first | refine blk_drewN ?_ _ | refine blk_drew ?_ | refine blk_alloc ?_ _)); refine blk_put (cs := #[.string (⟨#[]⟩ : ByteArray), .slice none 0 0, .slice none 0 0, .slice none 0 0]) ?_ 0 _ rfl; (with_reducible repeat (first | refine blk_drewN ?_ _ | refine blk_drew ?_ | refine blk_alloc ?_ _)); exact a1.out) hb); replace HB := zh HB hb; (try clear hb)))
   (try simp only [Act.put, zT])
   go_cut [] (fun wc => ∃ (kq : Nat), Aside0 (laws_FnExactPackOk.j1 kq a7 a2 a3 a4 a9 a5 a8 b0 = some r) ∧ Aside0 (kq ≤ e2) ∧ Aside0 (Kd.R Kd.string 9 wc w.heap.size (fun _ => True) (.slice b3 a5.length b1) a5) ∧ Aside0 (Kd.R k30 30 wc w.heap.size (fun _ => True) (.slice d1 a8.length b7) a8) ∧ Aside0 (Kd.S k93 93 wc w.heap.size (fun k_ => some k_ ≠ ((.slice b3 a5.length b1) : Value).ownBlock) (.slice d5 b0.length d2) b0) ∧ Aside0 (wc.heap[e0]? = some (.cells #[.string a7, (.slice b9 a2.length c0), (.slice c3 a3.length c5), (.slice c6 a4.length c8)] 39 (0, 0))) ∧ Aside0 (wc.heap[a6]? = some (.cells #[.string a9, (.slice b3 a5.length b1), (.slice d1 a8.length b7), (.slice d5 b0.length d2)] 45 (0, 0))) ∧ Aside0 (Below w.heap.size w wc))
   case first =>
    have H := g2.out
    clear g2
    replace H := zI1 H
    rcases H with ⟨e1, H⟩ | ⟨e1, H⟩
    ·exact absurd H (by simp)
    ·have f9 : (e5 != e4) = false := by simpa using e1
     (try (have m9 : decide (e5 = e4) = true := by simpa using e1))
     (try (have n0 : (e5 == e4) = true := by simpa using e1))
     clear e1
     (first | rw [f9] | (simp only [i64_w, i32_w]; rw [f9]) | rw [show (!(e5 == e4)) = false from f9] | skip)
     have H' := Aside0.mk H
     clear H
     go_wp2
     go_meet
     case rel => exact ⟨_, (by first | exact H' | (subst_vars; exact H')), ⟨by have := j4.out; first | omega | exact Nat.le_refl _⟩, ⟨zR (Kd.R_mono d6.out (fun _ hk => trivial))⟩, ⟨zR (Kd.R_mono d7.out (fun _ hk => trivial))⟩, ⟨by (with_reducible repeat (first | apply Kd.S_alloc | apply Kd.S_drewN | apply Kd.S_drew)); exact Kd.S_mono d8.out (fun _ hk => hk.1.1)⟩, ⟨zK a0.out⟩, ⟨zK a1.out⟩, ⟨zW HB.out⟩⟩
   case rest =>
    clear g2
    try clear c1
    try clear c2
    try clear p2
    try clear c4
    try clear c7
    try clear d9
    try clear c16
    try clear c17
    try clear c18
    try clear c19
    try clear c22
    try clear e1
    try clear f9
    try clear m9
    try clear n0
    try clear j7 j8 j9 k0 k1 k2 k3 k4
    try clear k8 k9 l0 l1 l2 l3 l4 l5
    try clear l8 l9 m0 m1 m2 m3 m4 m5
    try clear h5 h6 h7 h8 h9 i0 i1 i2
    try clear p2
    obtain ⟨kq, HA, p9, b8, d3, d4, a0, a1, HB⟩ := hcut
    cases kq with
    | zero => exact absurd HA.out (by simp [laws_FnExactPackOk.j1])
    | succ i7 =>
     have H := HA.out
     clear HA
     simp only [laws_FnExactPackOk.j1] at H
     replace H := zj H
     obtain ⟨⟨g5, g6, g7, g8⟩, n1, H⟩ := H
     try dsimp only at H
     replace H := zj H
     obtain ⟨q0, n2, H⟩ := H
     try dsimp only at H
     replace H := zB0 H
     rcases H with ⟨rfl, H⟩ | ⟨rfl, H⟩
     ·obtain rfl := Option.some.inj H
      try go_wp2
      replace b8 := zA (Kd.R_drew b8.out)
      replace d3 := zA (Kd.R_drew d3.out)
      replace d4 := zA (Kd.S_drew d4.out)
      replace a0 := zA (blk_drew a0.out)
      replace a1 := zA (blk_drew a1.out)
      replace HB := zA (below_drew1 HB.out)
      refine start_ (n := 5) (S := fun w' => w'.cell? ⟨a6, 0, none⟩ = some (.string a9) ∧ w'.cell? ⟨a6, 1, none⟩ = some (.slice b3 a5.length b1) ∧ w'.cell? ⟨a6, 2, none⟩ = some (.slice d1 a8.length b7) ∧ w'.cell? ⟨a6, 3, none⟩ = some (.slice d5 b0.length d2) ∧ w'.cell? ⟨e0, 0, none⟩ = some (.string a7) ∧ w'.cell? ⟨e0, 1, none⟩ = some (.slice b9 a2.length c0) ∧ w'.cell? ⟨e0, 2, none⟩ = some (.slice c3 a3.length c5) ∧ w'.cell? ⟨e0, 3, none⟩ = some (.slice c6 a4.length c8)) (ds := []) (Array.replicate 5 false) (by kernel_rfl) rfl rfl zO fun hHeld => ?_
      generalize wc.drew = q1 at b8 d3 d4 a0 a1 HB hHeld ⊢
      refine zt 0 22 ?_
      refine zt 1 23 ?_
      refine zo 2 (some 24) fun K hK => ?_
      refine goes_ Tryz.func18 (by kernel_rfl) rfl #[.agg #[.string a7, .slice b9 a2.length c0, .slice c3 a3.length c5, .slice c6 a4.length c8]] (by rfl) rfl rfl zM ?_
      with_reducible refine (laws_toPack.calls i7 a7 _ _ a2 _ _ a3 _ _ a4 g5 g6 g7 g8 _ ?side1 ?side2 ?side3 ?side4 ?side5 ?side6 n1.out).mono ?_
      (case side1 => exact zC (Kd.C_below f1.out HB.out))
      (case side2 => exact f2.out)
      (case side3 => exact zC (Kd.C_below f3.out HB.out))
      (case side4 => exact f4.out)
      (case side5 => exact zC (Kd.C_below f5.out HB.out))
      (case side6 => exact f6.out)
      rintro e q2 ⟨q3, q4, q5, rfl, b4, c9, d0, hb⟩
      refine ⟨_, rfl, ?_⟩
      have e6 := zA (Kd.R_lower (Kd.R_new' b4 (Kd.R_lt (zR b8.out))) (below_size (zW HB.out)))
      have e7 := zA (Kd.R_lower (Kd.R_new' c9 (Kd.R_lt (zR d3.out))) (below_size (zW HB.out)))
      replace d3 := zA (Kd.R_elder' (zR d3.out) (Kd.R_base c9) hb)
      have e8 := zA (Kd.S_lower (Kd.S_new' (Kd.S_new' d0 (Kd.R_lt (zR b8.out))) (Kd.S_lt (by (with_reducible repeat (first | apply Kd.S_alloc | apply Kd.S_drewN | apply Kd.S_drew)); exact d4.out))) (below_size (zW HB.out)))
      replace b8 := zA (Kd.R_elder' (zR b8.out) (Kd.R_base b4) hb)
      replace d4 := zA (Kd.S_mono (Kd.S_told (Kd.S_told (Kd.S_old (by (with_reducible repeat (first | apply Kd.S_alloc | apply Kd.S_drewN | apply Kd.S_drew)); exact d4.out) hb) (Kd.R_base b4)) (Kd.S_base d0)) (fun _ h_ => h_.1))
      replace a0 := zb a0 hb
      replace a1 := zb a1 hb
      replace HB := zh HB hb
      (try clear hb b4 c9 d0)
      obtain ⟨n3, n4, i8⟩ := Kd.R_slice e6.out
      (first | subst i8 | (injection i8 with f1_ f2_ f3_; have e9 := f1_.symm; have f0 := f3_.symm; clear f1_ f2_ f3_; subst e9; subst f0))
      obtain ⟨n5, n6, i9⟩ := Kd.R_slice e7.out
      (first | subst i9 | (injection i9 with f1_ f2_ f3_; have e9 := f1_.symm; have f0 := f3_.symm; clear f1_ f2_ f3_; subst e9; subst f0))
      obtain ⟨n7, n8, j2⟩ := Kd.S_slice e8.out
      (first | subst j2 | (injection j2 with f1_ f2_ f3_; have e9 := f1_.symm; have f0 := f3_.symm; clear f1_ f2_ f3_; subst e9; subst f0))
      refine hK.out _ _ zO fun hHeld => ?_
      clear hK K
      refine zn ?_
      refine zo 3 (some 25) fun K hK => ?_
      refine goes_ Tryz.func20 (by kernel_rfl) rfl #[.agg #[.string a9, .slice b3 a5.length b1, .slice d1 a8.length b7, .slice d5 b0.length d2], .agg #[.string g5, .slice n3 g6.length n4, .slice n5 g7.length n6, .slice n7 g8.length n8]] (by rfl) rfl rfl zM ?_
      with_reducible refine (laws_eqPack.calls i7 a9 _ _ a5 _ _ a8 _ _ b0 g5 _ _ g6 _ _ g7 _ _ g8 true _ ?side1 ?side2 ?side3 ?side4 ?side5 ?side6 ?side7 ?side8 ?side9 ?side10 ?side11 ?side12 n2.out).mono ?_
      (case side1 => repeat (first | exact (Kd.R_reads' b8.out).2.2 | (with_reducible refine Kd.C_alloc ?_ _) | (with_reducible refine Kd.C_drewN ?_ _) | (with_reducible refine Kd.C_drew ?_)))
      (case side2 => exact (Kd.R_reads' b8.out).2.1)
      (case side3 => repeat (first | exact (Kd.R_reads' d3.out).2.2 | (with_reducible refine Kd.C_alloc ?_ _) | (with_reducible refine Kd.C_drewN ?_ _) | (with_reducible refine Kd.C_drew ?_)))
      (case side4 => exact (Kd.R_reads' d3.out).2.1)
      (case side5 => repeat (first | exact (Kd.S_reads' d4.out).2.2 | (with_reducible refine Kd.C_alloc ?_ _) | (with_reducible refine Kd.C_drewN ?_ _) | (with_reducible refine Kd.C_drew ?_)))
      (case side6 => exact (Kd.S_reads' d4.out).2.1)
      (case side7 => repeat (first | exact (Kd.R_reads' e6.out).2.2 | (with_reducible refine Kd.C_alloc ?_ _) | (with_reducible refine Kd.C_drewN ?_ _) | (with_reducible refine Kd.C_drew ?_)))
      (case side8 => exact (Kd.R_reads' e6.out).2.1)
      (case side9 => repeat (first | exact (Kd.R_reads' e7.out).2.2 | (with_reducible refine Kd.C_alloc ?_ _) | (with_reducible refine Kd.C_drewN ?_ _) | (with_reducible refine Kd.C_drew ?_)))
      (case side10 => exact (Kd.R_reads' e7.out).2.1)
      (case side11 => repeat (first | exact (Kd.S_reads' e8.out).2.2 | (with_reducible refine Kd.C_alloc ?_ _) | (with_reducible refine Kd.C_drewN ?_ _) | (with_reducible refine Kd.C_drew ?_)))
      (case side12 => exact (Kd.S_reads' e8.out).2.1)
      rintro e q6 ⟨rfl, hb⟩
      refine ⟨_, rfl, ?_⟩
      replace b8 := zr b8 hb
      replace d3 := zr d3 hb
      replace d4 := zA (Kd.S_below (by (with_reducible repeat (first | apply Kd.S_alloc | apply Kd.S_drewN | apply Kd.S_drew)); exact d4.out) hb)
      replace e6 := zr e6 hb
      replace e7 := zr e7 hb
      replace e8 := zA (Kd.S_below (by (with_reducible repeat (first | apply Kd.S_alloc | apply Kd.S_drewN | apply Kd.S_drew)); exact e8.out) hb)
      replace a0 := zb a0 hb
      replace a1 := zb a1 hb
      replace HB := zh HB hb
      (try clear hb)
      refine hK.out _ _ zO fun hHeld => ?_
      clear hK K
      refine zn ?_
      refine zp 4 26 ?_
      refine done_ (by kernel_rfl) ?_
      try go_wp2
      go_ret
      exact ⟨zE, zW HB.out⟩
     ·exact absurd H (by simp)
end Go.Proofs.YtpcdhoeoefoeoaaGreatDoor.PGC
