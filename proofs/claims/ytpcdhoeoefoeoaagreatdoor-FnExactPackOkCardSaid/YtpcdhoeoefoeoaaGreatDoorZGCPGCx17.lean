/- The walks of the functions that these laws reach, and what each comes to: printed by this session's program. -/
import Derived.Test.YtpcdhoeoefoeoaaGreatDoorZGCPGCx0
import Derived.Test.YtpcdhoeoefoeoaaGreatDoorZGCPGCx14
import Derived.Test.YtpcdhoeoefoeoaaGreatDoorZGCPGCx15
import Derived.Test.YtpcdhoeoefoeoaaGreatDoorZGCPGCx16
import Derived.Test.YtpcdhoeoefoeoaaGreatDoorZGCSays
namespace Go.Proofs.YtpcdhoeoefoeoaaGreatDoor.PGC
open Go.RowKit YtpcdhoeoefoeoaaGreatDoorW.PrintWords YtpcdhoeoefoeoaaGreatDoorW.PrintLast YtpcdhoeoefoeoaaGreatDoorW.PrintMore
attribute [local go_sem high] Mine.str_gtr Mine.str_leq Mine.str_geq
attribute [local go_sem] max2_int min2_int max_two min_two max_three min_three max_four min_four   -- for this text's walks alone
set_option linter.unusedVariables false
set_option maxHeartbeats 8000000
set_option maxRecDepth 100000
set_option linter.unusedSimpArgs false
/-! ### impl_ParseNum: function 166 -/
mutual
def impl_ParseNum.j0 : Nat → ByteArray → Int → Option (Int × Bool)
 | 0, _, _ => none
 | k + 1, x0, x1 => impl_ParseNum.l0 k x0 x1 0 0
def impl_ParseNum.l0 : Nat → ByteArray → Int → Int → Int → Option (Int × Bool)
 | 0, _, _, _, _ => none
 | k + 1, x0, x1, x6, x7 => if x7 < (x0.size : Int) then (if 0 ≤ x7 then ((impl_isFigure.f (bt x0 x7)).bind fun a0 => (if a0 = true then (impl_ParseNum.l0 k x0 x1 (wrap64 ((wrap64 (x6 * 10)) + (((bt x0 x7) - 48) % 256))) (wrap64 (x7 + 1))) else (some (0, false)))) else (none)) else ((impl_NumText.f x6).bind fun a1 => (if a1.toList = x0.toList then (if x6 > x1 then (some (0, false)) else (some (x6, true))) else (some (0, false))))
end
def impl_ParseNum.f (k : Nat) (a0 : ByteArray) (a1 : Int) : Option (Int × Bool) := (impl_inRange.f (a0.size : Int) 1 7).bind fun a2 => (if a2 = true then (impl_ParseNum.j0 k a0 a1) else (some (0, false)))
theorem impl_ParseNum.calls (k : Nat) (a0 : ByteArray) (a1 r1 : Int) (r2 : Bool) (w : World) (hG : GW w) (h : impl_ParseNum.f k a0 a1 = some (r1, r2)) :
  Calls Tryz.prog 166 #[.string a0, .int .i64 a1] w fun e w' => e = .returned (.tuple #[.int .i64 r1, .bool r2]) ∧ Below w.heap.size w w' := by
 have HG := Aside0.mk hG
 clear hG
 have HB := zA (Below.refl w.heap.size w)
 unfold impl_ParseNum.f at h
 have H := h
 clear h
 replace H := zj H
 obtain ⟨b4, A3, H⟩ := H
 try dsimp only at H
 have a6 := Aside0.mk H
 clear H
 go_enter Tryz.func166, Tryz.ntmps166
 go_upto_if 11 with (first | ((with_reducible refine zq 113 ?_); refine zg (some 10) Tryz.func113 #[.int .i64 (a0.size : Int), .int .i64 1, .int .i64 7] ?_; (with_reducible refine (impl_inRange.calls (a0.size : Int) 1 7 b4 _ A3.out).mono ?_); rintro e w' ⟨rfl, ⟨nd, rfl⟩⟩; refine ⟨_, rfl, ?_⟩))
 (try simp only [Act.put, zT])
 go_cut [] (fun wc => ∃ (kq : Nat), Aside0 (impl_ParseNum.j0 kq a0 a1 = some (r1, r2)) ∧ Aside0 (kq ≤ k) ∧ Aside0 (Below w.heap.size w wc))
 case first =>
  have H := a6.out
  clear a6
  replace H := zB0 H
  rcases H with ⟨rfl, H⟩ | ⟨rfl, H⟩
  ·have H' := Aside0.mk H
   clear H
   go_wp2
   go_meet
   case rel => exact ⟨_, (by first | exact H' | (subst_vars; exact H')), ⟨by first | omega | exact Nat.le_refl _⟩, ⟨zB⟩⟩
  ·simp only [Option.some.injEq, Prod.mk.injEq] at H
   obtain ⟨rfl, rfl⟩ := H
   go_wp2
   go_ret2
   exact ⟨zE, zB⟩
 case rest =>
  clear a6
  try clear c1
  try clear p2
  try clear c5
  obtain ⟨kq, HA, a9, HB⟩ := hcut
  cases kq with
  | zero => exact absurd HA.out (by simp [impl_ParseNum.j0])
  | succ b0 =>
   have H := HA.out
   clear HA
   simp only [impl_ParseNum.j0] at H
   have H' := Aside0.mk H
   clear H
   go_wp2
   go_loopg [6, 7] b0 (fun kq v6 v7 w' => ∃ (a3 : Int) (a2 : Int), v6 = .int .i64 a3 ∧ v7 = .int .i64 a2 ∧ Aside0 (impl_ParseNum.l0 kq a0 a1 a3 a2 = some (r1, r2)) ∧ Aside0 (kq ≤ b0) ∧ Aside0 (Below w.heap.size w w'))
   case atStart => exact ⟨(0), (0), zS, zS, H', ⟨Nat.le_refl _⟩, ⟨zB⟩⟩
   case round =>
    clear H'
    try clear c1
    try clear p2
    try clear c5
    try clear p2
    obtain ⟨a3, a2, rfl, rfl, HA, b1, HB⟩ := hrel
    cases gk with
    | zero => exact absurd HA.out (by simp [impl_ParseNum.l0])
    | succ k2 =>
     have H := HA.out
     clear HA
     simp only [impl_ParseNum.l0] at H
     replace H := zI0 H
     rcases H with ⟨b5, H⟩ | ⟨b5, H⟩
     ·replace H := zD0 H
      obtain ⟨c0, H⟩ := H
      replace H := zj H
      obtain ⟨c2, A9, H⟩ := H
      try dsimp only at H
      replace H := zB0 H
      rcases H with ⟨rfl, H⟩ | ⟨rfl, H⟩
      ·have H' := Aside0.mk H
       clear H
       have p8 : 0 ≤ (a2 : Int) := zD
       have q8 : a2 < (a0.size : Int) := zD
       have b6 := bt_at a0 a2
       replace p8 := eq_true p8
       replace q8 := eq_true q8
       go_wp2_with (first | ((with_reducible refine zq 115 ?_); refine zg (some 21) Tryz.func115 #[.int .u8 (bt a0 a2)] ?_; (with_reducible refine (impl_isFigure.calls (bt a0 a2) true _ A9.out).mono ?_); rintro e w' ⟨rfl, ⟨nd, rfl⟩⟩; refine ⟨_, rfl, ?_⟩; have b2 : 0 ≤ (a2 : Int) := zD; have b3 : a2 < (a0.size : Int) := zD; have c3 := bt_at a0 a2; replace b2 := eq_true b2; replace b3 := eq_true b3))
       go_roundg k2
       case measure => have := a9.out; have := b1.out; omega
       case rel => exact ⟨(wrap64 ((wrap64 (a3 * 10)) + (((bt a0 a2) - 48) % 256))), (wrap64 (a2 + 1)), zS, zS, H', ⟨by have := a9.out; have := b1.out; omega⟩, ⟨zB⟩⟩
      ·simp only [Option.some.injEq, Prod.mk.injEq] at H
       obtain ⟨rfl, rfl⟩ := H
       have p8 : 0 ≤ (a2 : Int) := zD
       have q8 : a2 < (a0.size : Int) := zD
       have b6 := bt_at a0 a2
       replace p8 := eq_true p8
       replace q8 := eq_true q8
       go_wp2_with (first | ((with_reducible refine zq 115 ?_); refine zg (some 21) Tryz.func115 #[.int .u8 (bt a0 a2)] ?_; (with_reducible refine (impl_isFigure.calls (bt a0 a2) false _ A9.out).mono ?_); rintro e w' ⟨rfl, ⟨nd, rfl⟩⟩; refine ⟨_, rfl, ?_⟩))
       go_ret2
       exact ⟨zE, zB⟩
     ·replace H := zj H
      obtain ⟨a7, a8, H⟩ := H
      try dsimp only at H
      replace H := zI1 H
      rcases H with ⟨a4, H⟩ | ⟨a4, H⟩
      ·have b7 := beq_iff_eq.mpr a4
       have b8 := bne_eq_false_iff_eq.mpr a4
       clear a4
       replace H := zI1 H
       rcases H with ⟨a5, H⟩ | ⟨a5, H⟩
       ·have b9 : decide (a1 < a3) = true := decide_eq_true a5
        clear a5
        simp only [Option.some.injEq, Prod.mk.injEq] at H
        obtain ⟨rfl, rfl⟩ := H
        go_wp2_with (first | ((with_reducible refine zq 143 ?_); refine zg (some 32) Tryz.func143 #[.int .i64 a3] ?_; (with_reducible refine (impl_NumText.calls a3 a7 _ ?side1 a8.out).mono ?_); (case side1 => exact GW.below HG.out (zB)); rintro e c4 ⟨rfl, hb⟩; refine ⟨_, rfl, ?_⟩; replace HB := zA (below_step (zB) hb); (try clear hb)))
        go_ret2
        exact ⟨zE, zB⟩
       ·have b9 : decide (a1 < a3) = false := decide_eq_false a5
        clear a5
        simp only [Option.some.injEq, Prod.mk.injEq] at H
        obtain ⟨rfl, rfl⟩ := H
        go_wp2_with (first | ((with_reducible refine zq 143 ?_); refine zg (some 32) Tryz.func143 #[.int .i64 a3] ?_; (with_reducible refine (impl_NumText.calls a3 a7 _ ?side1 a8.out).mono ?_); (case side1 => exact GW.below HG.out (zB)); rintro e c6 ⟨rfl, hb⟩; refine ⟨_, rfl, ?_⟩; replace HB := zA (below_step (zB) hb); (try clear hb)))
        go_ret2
        exact ⟨zE, zB⟩
      ·have b7 := beq_eq_false_iff_ne.mpr a4
       have b8 := bne_iff_ne.mpr a4
       simp only [Option.some.injEq, Prod.mk.injEq] at H
       obtain ⟨rfl, rfl⟩ := H
       go_wp2_with (first | ((with_reducible refine zq 143 ?_); refine zg (some 32) Tryz.func143 #[.int .i64 a3] ?_; (with_reducible refine (impl_NumText.calls a3 a7 _ ?side1 a8.out).mono ?_); (case side1 => exact GW.below HG.out (zB)); rintro e c7 ⟨rfl, hb⟩; refine ⟨_, rfl, ?_⟩; replace HB := zA (below_step (zB) hb); (try clear hb)))
       go_ret2
       exact ⟨zE, zB⟩
/-! ### impl_ParseVer: function 128 -/
def impl_ParseVer.no : Int × Int × Int × List ByteArray × Bool := (0, 0, 0, [], false)
/-- The numbers are read: what stands behind the dash, and whether all is told so. -/
def impl_ParseVer.fin (k : Nat) (a0 pre : ByteArray) (has : Bool) (a b c : Int) : Option (Int × Int × Int × List ByteArray × Bool) :=
 if has = true then (strings_Split.f pre (⟨#[46]⟩ : ByteArray)).bind fun q => (impl_VerText.f k a b c q).bind fun t => if t.toList = a0.toList then some (a, b, c, q, true) else some impl_ParseVer.no
 else (impl_VerText.f k a b c []).bind fun t => if t.toList = a0.toList then some (a, b, c, [], true) else some impl_ParseVer.no
def impl_ParseVer.n1 (k : Nat) (a0 pre : ByteArray) (has : Bool) (ps : List ByteArray) (a b : Int) : Option (Int × Int × Int × List ByteArray × Bool) := (impl_ParseNum.f k (rdOf ByteArray.empty ps 2) 9999).bind fun t => if t.2 = true then impl_ParseVer.fin k a0 pre has a b t.1 else some impl_ParseVer.no
def impl_ParseVer.n2 (k : Nat) (a0 pre : ByteArray) (has : Bool) (ps : List ByteArray) (a : Int) : Option (Int × Int × Int × List ByteArray × Bool) := (impl_ParseNum.f k (rdOf ByteArray.empty ps 1) 9999).bind fun t => if t.2 = true then impl_ParseVer.n1 k a0 pre has ps a t.1 else some impl_ParseVer.no
def impl_ParseVer.n3 (k : Nat) (a0 pre : ByteArray) (has : Bool) (ps : List ByteArray) : Option (Int × Int × Int × List ByteArray × Bool) := (impl_ParseNum.f k (rdOf ByteArray.empty ps 0) 9999).bind fun t => if t.2 = true then impl_ParseVer.n2 k a0 pre has ps t.1 else some impl_ParseVer.no
/-- So many numbers are still to be read; what is read so far. -/
def impl_ParseVer.rest (k : Nat) (a0 pre : ByteArray) (has : Bool) (ps : List ByteArray) (m : Nat) (a b c : Int) : Option (Int × Int × Int × List ByteArray × Bool) :=
 match m with
 | 0 => impl_ParseVer.fin k a0 pre has a b c
 | 1 => impl_ParseVer.n1 k a0 pre has ps a b
 | 2 => impl_ParseVer.n2 k a0 pre has ps a
 | _ => impl_ParseVer.n3 k a0 pre has ps
def impl_ParseVer.f (k : Nat) (a0 : ByteArray) : Option (Int × Int × Int × List ByteArray × Bool) :=
 (strings_Cut.f a0 (⟨#[45]⟩ : ByteArray)).bind fun t => (strings_Split.f t.1 (⟨#[46]⟩ : ByteArray)).bind fun ps => if ps.length = 3 then impl_ParseVer.n3 k a0 t.2.1 t.2.2 ps else some impl_ParseVer.no
theorem impl_ParseVer.calls (k : Nat) (a0 : ByteArray) (r1 r2 r3 : Int) (r4 : List ByteArray) (r5 : Bool) (w : World) (hG : GW w) (h : impl_ParseVer.f k a0 = some (r1, r2, r3, r4, r5)) :
  Calls Tryz.prog 128 #[.string a0] w fun e w' => ∃ c4 : Value, e = .returned (.tuple #[.agg #[.int .i64 r1, .int .i64 r2, .int .i64 r3, c4], .bool r5]) ∧ Kd.R Kd.string 9 w' w.heap.size (fun _ => True) c4 r4 ∧ Below w.heap.size w w' := by
 have hu_ := Tryz.underlying32
 have HG := Aside0.mk hG
 have HB := zA (Below.refl w.heap.size w)
 clear hG
 unfold impl_ParseVer.f at h
 replace h := Option.bind_eq_some_iff.mp h
 obtain ⟨t, hcut, h⟩ := h
 replace h := Option.bind_eq_some_iff.mp h
 obtain ⟨ps, hsplit, h⟩ := h
 obtain ⟨num, pre, has⟩ := t
 have CUT := Aside0.mk hcut
 have SPL := Aside0.mk hsplit
 clear hcut hsplit
 by_cases hlen : ps.length = 3
 ·rw [if_pos hlen] at h
  have REST := Aside0.mk h
  have LEN := Aside0.mk hlen
  have d4 : ((ps.length : Int) == 3) = true := by rw [hlen]; rfl
  have hl3' : ((ps.length : Int) != 3) = false := by rw [hlen]; rfl
  clear h hlen
  go_enter Tryz.func128, Tryz.ntmps128
  go_wp2_with (first
   | ((with_reducible refine gate_dst (N := 2) rfl ?_); refine box_event ?hg (N := 2) ?hd (cs := #[.int .i64 0, .int .i64 0, .int .i64 0, .slice none 0 0]) (t := 32) ?hr ?_; (case hd => rfl); (case hg => rfl); (case hr => first | (go_simp; done) | (go_simp; rfl)); intro gr hg w1 hbox hb; have a1 := zA (below_step HB.out hb); have BR := Aside0.mk hbox; have GR := zA ((by rw [hg]; exact Nat.le_refl _) : w.heap.size ≤ gr); clear HB; have HB := a1; clear a1; clear hb hbox hg)
   | (go_at_call 165; (with_reducible refine (strings_Cut.calls a0 (⟨#[45]⟩ : ByteArray) num pre has _ ?hgw CUT.out).mono ?_); (case hgw => exact GW.below HG.out HB.out); rintro e w2 ⟨rfl, hb⟩; have a1 := zA (below_step HB.out hb); have a2 := zA (blk_below BR.out hb); clear HB BR; have HB := a1; have BR := a2; clear a1 a2 hb)
   | (go_at_call 81; (with_reducible refine (strings_Split.calls num (⟨#[46]⟩ : ByteArray) ps _ ?hgw SPL.out).mono ?_); (case hgw => exact GW.below HG.out HB.out); rintro e w3 ⟨v3, rfl, ho, hb⟩; have a1 := zA (below_step HB.out hb); have a2 := zA (blk_below BR.out hb); have HO := zA (Kd.R_lower ho (below_size HB.out)); clear HB BR; have HB := a1; have BR := a2; clear a1 a2 hb ho; obtain ⟨Ao, co, eo⟩ := Kd.R_slice HO.out; subst eo)
   | ((with_reducible refine gate_dst (N := 8) rfl ?_); refine box_event ?hg (N := 8) ?hd (cs := #[.int .i64 0, .int .i64 0, .int .i64 0, .slice none 0 0]) (t := 32) ?hr ?_; (case hd => rfl); (case hg => rfl); (case hr => first | (go_simp; done) | (go_simp; rfl)); intro gv hg w4 hbox hb; have a1 := zA (below_step HB.out hb); have a2 := zA (blk_below BR.out hb); have a3 := zA (Kd.R_below HO.out hb); have BV := Aside0.mk hbox; have GV := zA ((by rw [hg]; exact below_size HB.out) : w.heap.size ≤ gv); have NE := zA ((by rw [hg]; exact Nat.ne_of_lt (blk_lt BR.out)) : gr ≠ gv); clear HB BR HO; have HB := a1; have BR := a2; have HO := a3; clear a1 a2 a3; clear hb hbox hg))
  go_loopg [29] 3 (fun gg d5 wr => ∃ (m : Nat) (a b c : Int), m ≤ 3 ∧ m ≤ gg ∧ d5 = .int .i64 ((3 - m : Nat) : Int) ∧ (m = 3 → a = 0) ∧ (2 ≤ m → b = 0) ∧ (1 ≤ m → c = 0) ∧ Aside0 (impl_ParseVer.rest k a0 pre has ps m a b c = some (r1, r2, r3, r4, r5)) ∧ Aside0 (Below w.heap.size w wr) ∧
   Aside0 (wr.heap[gr]? = some (.cells #[.int .i64 0, .int .i64 0, .int .i64 0, .slice none 0 0] 32 (0, 0))) ∧ Aside0 (wr.heap[gv]? = some (.cells #[.int .i64 a, .int .i64 b, .int .i64 c, .slice none 0 0] 32 (0, 0))) ∧
   Aside0 (Kd.string.R 9 wr w.heap.size (fun _ => True) (.slice Ao ps.length co) ps))
  case atStart => exact ⟨3, 0, 0, 0, Nat.le_refl _, Nat.le_refl _, rfl, fun _ => rfl, fun _ => rfl, fun _ => rfl, REST, HB, BR, BV, HO⟩
  case round =>
   clear HB BR BV HO
   obtain ⟨m, a, b, c, d6, hmg, rfl, ha, c5, c3, REST, HB, BR, BV, HO⟩ := hrel
   rcases m with _ | _ | _ | m
   ·
    have H := REST.out
    clear REST
    replace H : impl_ParseVer.fin k a0 pre has a b c = some (r1, r2, r3, r4, r5) := H
    unfold impl_ParseVer.fin at H
    cases has with
    | true =>
     simp only [if_true] at H
     replace H := Option.bind_eq_some_iff.mp H
     obtain ⟨q, hq, H⟩ := H
     replace H := Option.bind_eq_some_iff.mp H
     obtain ⟨t, ht, H⟩ := H
     have SQ := Aside0.mk hq
     have VT := Aside0.mk ht
     clear hq ht
     go_wp2_with (fail)
     (with_reducible refine (strings_Split.calls pre (⟨#[46]⟩ : ByteArray) q _ ?hgw SQ.out).mono ?_)
     (case hgw => exact GW.below HG.out (zW HB.out))
     rintro e w5 ⟨v5, rfl, ho, hb⟩
     replace BR := zb BR hb
     replace BV := zb BV hb
     have HQ := zA (Kd.R_lower ho (below_size (zW HB.out)))
     replace HB := zh HB hb
     clear HO ho hb
     obtain ⟨Aq, cq, eq_⟩ := Kd.R_slice HQ.out
     subst eq_
     have hnb := NE.out
     have hnc := NE.out.symm
     have a5 := zc0 BV.out
     have a6 := zF BV.out 0
     have a7 := zc1 BV.out
     have a8 := zF BV.out 1
     have a9 := zc2 BV.out
     have b0 := zF BV.out 2
     have b1 := zc3 BV.out
     have b2 := zF BV.out 3
     go_wp2_with (fail)
     (with_reducible refine (impl_VerText.calls k a b c _ _ q t _ ?side1 ?side2 ?hgw VT.out).mono ?_)
     (case side1 => exact (Kd.R_reads' (Kd.R_set (zR HQ.out) BV.out (by decide) _ _)).2.2)
     (case side2 => exact (Kd.R_reads' HQ.out).2.1)
     (case hgw => exact GW.below HG.out (zW HB.out))
     rintro e w6 ⟨rfl, hb⟩
     replace HB := zh HB hb
     replace BR := zA (blk_below (g := gr) (o := .cells #[.int .i64 0, .int .i64 0, .int .i64 0, .slice none 0 0] 32 (0, 0)) (by (with_reducible repeat (first | refine blk_drewN ?_ _ | refine blk_drew ?_ | refine blk_alloc ?_ _)); refine blk_far ?_ NE.out _; (with_reducible repeat (first | refine blk_drewN ?_ _ | refine blk_drew ?_ | refine blk_alloc ?_ _)); exact BR.out) hb)
     replace HQ := zA (Kd.R_below (Kd.R_set (zR HQ.out) BV.out (by decide) _ _) hb)
     replace BV := zA (blk_below (g := gv) (o := .cells #[.int .i64 a, .int .i64 b, .int .i64 c, .slice Aq q.length cq] 32 (0, 0)) (by (with_reducible repeat (first | refine blk_drewN ?_ _ | refine blk_drew ?_ | refine blk_alloc ?_ _)); refine blk_put (cs := #[.int .i64 a, .int .i64 b, .int .i64 c, .slice none 0 0]) ?_ 3 _ rfl; (with_reducible repeat (first | refine blk_drewN ?_ _ | refine blk_drew ?_ | refine blk_alloc ?_ _)); exact BV.out) hb)
     clear a5 a7 a9 b1 a6 a8 b0 b2 hb
     have a5 := zc0 BV.out
     have a6 := zF BV.out 0
     have a7 := zc1 BV.out
     have a8 := zF BV.out 1
     have a9 := zc2 BV.out
     have b0 := zF BV.out 2
     have b1 := zc3 BV.out
     have b2 := zF BV.out 3
     have c6 := zc0 BR.out
     have c7 := zF BR.out 0
     have c8 := zc1 BR.out
     have c9 := zF BR.out 1
     have d0 := zc2 BR.out
     have d1 := zF BR.out 2
     have d2 := zc3 BR.out
     have d3 := zF BR.out 3
     by_cases hs : t.toList = a0.toList
     ·rw [if_pos hs] at H
      simp only [Option.some.injEq, Prod.mk.injEq] at H
      obtain ⟨rfl, rfl, rfl, rfl, rfl⟩ := H
      have s0 : (t.toList == a0.toList) = true := beq_iff_eq.mpr hs
      have s1 : (t.toList != a0.toList) = false := bne_eq_false_iff_eq.mpr hs
      clear hs
      go_wp2
      refine bodyPost_ret (results_ct rfl _ _ gr 32 #[.int .i64 a, .int .i64 b, .int .i64 c, .slice Aq q.length cq] (0, 0) _ rfl (zk4 BR.out) Tryz.underlying32 rfl (by kernel_rfl)) rfl ?_
      exact ⟨_, rfl, zR (Kd.R_mono (Kd.R_far (p := ⟨gr, 3, none⟩) (Kd.R_far (p := ⟨gr, 2, none⟩) (Kd.R_far (p := ⟨gr, 1, none⟩) (Kd.R_far (p := ⟨gr, 0, none⟩) (Kd.R_types HQ.out BR.out (by decide)) (fun _ hk => hk.2) (.int .i64 a)) (fun _ hk => hk.2) (.int .i64 b)) (fun _ hk => hk.2) (.int .i64 c)) (fun _ hk => hk.2) (.slice Aq q.length cq)) (fun _ _ => trivial)), zW HB.out⟩
     ·rw [if_neg hs] at H
      simp only [impl_ParseVer.no, Option.some.injEq, Prod.mk.injEq] at H
      obtain ⟨rfl, rfl, rfl, rfl, rfl⟩ := H
      have s0 : (t.toList == a0.toList) = false := beq_eq_false_iff_ne.mpr hs
      have s1 : (t.toList != a0.toList) = true := bne_iff_ne.mpr hs
      clear hs
      go_wp2
      refine bodyPost_ret (results_ct rfl _ _ gr 32 #[.int .i64 0, .int .i64 0, .int .i64 0, .slice none 0 0] (0, 0) _ rfl (zk4 BR.out) Tryz.underlying32 rfl (by kernel_rfl)) rfl ?_
      exact ⟨_, rfl, Kd.R_nil _ _ _ _ _, zW HB.out⟩
    | false =>
     simp only [Bool.false_eq_true, if_false] at H
     replace H := Option.bind_eq_some_iff.mp H
     obtain ⟨t, ht, H⟩ := H
     have VT := Aside0.mk ht
     clear ht HO
     have hnb := NE.out
     have hnc := NE.out.symm
     have a5 := zc0 BV.out
     have a6 := zF BV.out 0
     have a7 := zc1 BV.out
     have a8 := zF BV.out 1
     have a9 := zc2 BV.out
     have b0 := zF BV.out 2
     have b1 := zc3 BV.out
     have b2 := zF BV.out 3
     go_wp2_with (fail)
     (refine (impl_VerText.calls k a b c none 0 [] t _ ?side1 ?side2 ?hgw VT.out).mono ?_)
     (case side1 => exact Kd.C_nil _ _)
     (case side2 => exact Nat.le_refl _)
     (case hgw => exact GW.below HG.out (zW HB.out))
     rintro e w6 ⟨rfl, hb⟩
     replace HB := zh HB hb
     replace BR := zb BR hb
     replace BV := zb BV hb
     clear a5 a7 a9 b1 a6 a8 b0 b2 hb
     have a5 := zc0 BV.out
     have a6 := zF BV.out 0
     have a7 := zc1 BV.out
     have a8 := zF BV.out 1
     have a9 := zc2 BV.out
     have b0 := zF BV.out 2
     have b1 := zc3 BV.out
     have b2 := zF BV.out 3
     have c6 := zc0 BR.out
     have c7 := zF BR.out 0
     have c8 := zc1 BR.out
     have c9 := zF BR.out 1
     have d0 := zc2 BR.out
     have d1 := zF BR.out 2
     have d2 := zc3 BR.out
     have d3 := zF BR.out 3
     by_cases hs : t.toList = a0.toList
     ·rw [if_pos hs] at H
      simp only [Option.some.injEq, Prod.mk.injEq] at H
      obtain ⟨rfl, rfl, rfl, rfl, rfl⟩ := H
      have s0 : (t.toList == a0.toList) = true := beq_iff_eq.mpr hs
      have s1 : (t.toList != a0.toList) = false := bne_eq_false_iff_eq.mpr hs
      clear hs
      go_wp2
      refine bodyPost_ret (results_ct rfl _ _ gr 32 #[.int .i64 a, .int .i64 b, .int .i64 c, .slice none 0 0] (0, 0) _ rfl (zk4 BR.out) Tryz.underlying32 rfl (by kernel_rfl)) rfl ?_
      exact ⟨_, rfl, Kd.R_nil _ _ _ _ _, zW HB.out⟩
     ·rw [if_neg hs] at H
      simp only [impl_ParseVer.no, Option.some.injEq, Prod.mk.injEq] at H
      obtain ⟨rfl, rfl, rfl, rfl, rfl⟩ := H
      have s0 : (t.toList == a0.toList) = false := beq_eq_false_iff_ne.mpr hs
      have s1 : (t.toList != a0.toList) = true := bne_iff_ne.mpr hs
      clear hs
      go_wp2
      refine bodyPost_ret (results_ct rfl _ _ gr 32 #[.int .i64 0, .int .i64 0, .int .i64 0, .slice none 0 0] (0, 0) _ rfl (zk4 BR.out) Tryz.underlying32 rfl (by kernel_rfl)) rfl ?_
      exact ⟨_, rfl, Kd.R_nil _ _ _ _ _, zW HB.out⟩
   ·
    obtain rfl := c3 (by omega)
    obtain ⟨pb, po, e_, hcell⟩ := Lb.C_string_plain (Kd.R_reads' HO.out).2.2 (by have := LEN.out; omega)
    cases e_
    have hx : wr.cell? ⟨pb, po + 2, none⟩ = some (.string (rdOf ByteArray.empty ps 2)) := hcell 2 _ (by
     unfold rdOf
     rw [List.getD_eq_getElem?_getD, show (2 : Int).toNat = 2 from rfl, List.getElem?_eq_getElem (show 2 < ps.length by have := LEN.out; omega)]
     rfl)
    clear hcell
    have hidx : ∀ W : World, (Instr.index 183 (.agg #[.pointer (some ⟨gv, 0, none⟩), .pointer (some ⟨gv, 1, none⟩), .pointer (some ⟨gv, 2, none⟩)]) (.int .i64 2)).run Tryz.prog W = .ok (.pointer (some ⟨gv, 2, none⟩)) W := fun W => by kernel_rfl
    have hl : (2 : Int) < (ps.length : Int) := by have := LEN.out; omega
    have H := REST.out
    clear REST
    replace H := Option.bind_eq_some_iff.mp H
    obtain ⟨⟨n, ok⟩, hpn, H⟩ := H
    have PN := Aside0.mk hpn
    clear hpn
    cases ok with
    | false =>
     replace H : some impl_ParseVer.no = some (r1, r2, r3, r4, r5) := H
     simp only [impl_ParseVer.no, Option.some.injEq, Prod.mk.injEq] at H
     obtain ⟨rfl, rfl, rfl, rfl, rfl⟩ := H
     go_wp2_with (fail)
     (with_reducible refine (impl_ParseNum.calls k (rdOf ByteArray.empty ps 2) 9999 n false _ ?hgw PN.out).mono ?_)
     (case hgw => exact GW.below HG.out (zB))
     rintro e w5 ⟨rfl, hb⟩
     have a1 := zA (below_step (zB) hb)
     have a2 := zA (blk_below (zK BR.out) hb)
     have a3 := zA (blk_below (zK BV.out) hb)
     have a4 := zA (Kd.R_below (d := Kd.string) (e := 9) (base := w.heap.size) (ok := fun _ => True) (zR HO.out) hb)
     clear HB BR BV HO
     have HB := a1
     have BR := a2
     have BV := a3
     have HO := a4
     clear a1 a2 a3 a4 hb
     have hnb := NE.out
     have hnc := NE.out.symm
     have b3 := zc2 BV.out
     have b4 := zF BV.out 2
     have b5 := zc0 BR.out
     have b6 := zc1 BR.out
     have b7 := zc2 BR.out
     have b8 := zc3 BR.out
     have b9 := zF BR.out 0
     have c0 := zF BR.out 1
     have c1 := zF BR.out 2
     have c2 := zF BR.out 3
     go_wp2
     refine bodyPost_ret (results_ct rfl _ _ gr 32 #[.int .i64 0, .int .i64 0, .int .i64 0, .slice none 0 0] (0, 0) _ rfl (zk4 BR.out) Tryz.underlying32 rfl (by kernel_rfl)) rfl ?_
     exact ⟨_, rfl, Kd.R_nil _ _ _ _ _, zW HB.out⟩
    | true =>
     have RST := Aside0.mk H
     clear H
     go_wp2_with (fail)
     (with_reducible refine (impl_ParseNum.calls k (rdOf ByteArray.empty ps 2) 9999 n true _ ?hgw PN.out).mono ?_)
     (case hgw => exact GW.below HG.out (zB))
     rintro e w5 ⟨rfl, hb⟩
     have a1 := zA (below_step (zB) hb)
     have a2 := zA (blk_below (zK BR.out) hb)
     have a3 := zA (blk_below (zK BV.out) hb)
     have a4 := zA (Kd.R_below (d := Kd.string) (e := 9) (base := w.heap.size) (ok := fun _ => True) (zR HO.out) hb)
     clear HB BR BV HO
     have HB := a1
     have BR := a2
     have BV := a3
     have HO := a4
     clear a1 a2 a3 a4 hb
     have hnb := NE.out
     have hnc := NE.out.symm
     have b3 := zc2 BV.out
     have b4 := zF BV.out 2
     have b5 := zc0 BR.out
     have b6 := zc1 BR.out
     have b7 := zc2 BR.out
     have b8 := zc3 BR.out
     have b9 := zF BR.out 0
     have c0 := zF BR.out 1
     have c1 := zF BR.out 2
     have c2 := zF BR.out 3
     go_wp2
     go_roundg 0
     case measure => omega
     case rel => exact ⟨0, a, b, n, by omega, by omega, by first | rfl | go_num, by first | omega | (intro _; omega), by first | omega | (intro _; first | rfl | omega), by first | omega | (intro _; first | rfl | omega), RST, ⟨zW HB.out⟩,
      ⟨by (with_reducible repeat (first | refine blk_drewN ?_ _ | refine blk_drew ?_ | refine blk_alloc ?_ _)); refine blk_far ?_ NE.out _; (with_reducible repeat (first | refine blk_drewN ?_ _ | refine blk_drew ?_ | refine blk_alloc ?_ _)); exact BR.out⟩, ⟨by (with_reducible repeat (first | refine blk_drewN ?_ _ | refine blk_drew ?_ | refine blk_alloc ?_ _)); refine blk_put (cs := #[.int .i64 a, .int .i64 b, .int .i64 0, .slice none 0 0]) ?_ 2 _ rfl; (with_reducible repeat (first | refine blk_drewN ?_ _ | refine blk_drew ?_ | refine blk_alloc ?_ _)); exact BV.out⟩, ⟨Kd.R_set (zR HO.out) BV.out (by decide) _ _⟩⟩
   ·
    obtain rfl := c5 (by omega); obtain rfl := c3 (by omega)
    obtain ⟨pb, po, e_, hcell⟩ := Lb.C_string_plain (Kd.R_reads' HO.out).2.2 (by have := LEN.out; omega)
    cases e_
    have hx : wr.cell? ⟨pb, po + 1, none⟩ = some (.string (rdOf ByteArray.empty ps 1)) := hcell 1 _ (by
     unfold rdOf
     rw [List.getD_eq_getElem?_getD, show (1 : Int).toNat = 1 from rfl, List.getElem?_eq_getElem (show 1 < ps.length by have := LEN.out; omega)]
     rfl)
    clear hcell
    have hidx : ∀ W : World, (Instr.index 183 (.agg #[.pointer (some ⟨gv, 0, none⟩), .pointer (some ⟨gv, 1, none⟩), .pointer (some ⟨gv, 2, none⟩)]) (.int .i64 1)).run Tryz.prog W = .ok (.pointer (some ⟨gv, 1, none⟩)) W := fun W => by kernel_rfl
    have hl : (1 : Int) < (ps.length : Int) := by have := LEN.out; omega
    have H := REST.out
    clear REST
    replace H := Option.bind_eq_some_iff.mp H
    obtain ⟨⟨n, ok⟩, hpn, H⟩ := H
    have PN := Aside0.mk hpn
    clear hpn
    cases ok with
    | false =>
     replace H : some impl_ParseVer.no = some (r1, r2, r3, r4, r5) := H
     simp only [impl_ParseVer.no, Option.some.injEq, Prod.mk.injEq] at H
     obtain ⟨rfl, rfl, rfl, rfl, rfl⟩ := H
     go_wp2_with (fail)
     (with_reducible refine (impl_ParseNum.calls k (rdOf ByteArray.empty ps 1) 9999 n false _ ?hgw PN.out).mono ?_)
     (case hgw => exact GW.below HG.out (zB))
     rintro e w5 ⟨rfl, hb⟩
     have a1 := zA (below_step (zB) hb)
     have a2 := zA (blk_below (zK BR.out) hb)
     have a3 := zA (blk_below (zK BV.out) hb)
     have a4 := zA (Kd.R_below (d := Kd.string) (e := 9) (base := w.heap.size) (ok := fun _ => True) (zR HO.out) hb)
     clear HB BR BV HO
     have HB := a1
     have BR := a2
     have BV := a3
     have HO := a4
     clear a1 a2 a3 a4 hb
     have hnb := NE.out
     have hnc := NE.out.symm
     have b3 := zc1 BV.out
     have b4 := zF BV.out 1
     have b5 := zc0 BR.out
     have b6 := zc1 BR.out
     have b7 := zc2 BR.out
     have b8 := zc3 BR.out
     have b9 := zF BR.out 0
     have c0 := zF BR.out 1
     have c1 := zF BR.out 2
     have c2 := zF BR.out 3
     go_wp2
     refine bodyPost_ret (results_ct rfl _ _ gr 32 #[.int .i64 0, .int .i64 0, .int .i64 0, .slice none 0 0] (0, 0) _ rfl (zk4 BR.out) Tryz.underlying32 rfl (by kernel_rfl)) rfl ?_
     exact ⟨_, rfl, Kd.R_nil _ _ _ _ _, zW HB.out⟩
    | true =>
     have RST := Aside0.mk H
     clear H
     go_wp2_with (fail)
     (with_reducible refine (impl_ParseNum.calls k (rdOf ByteArray.empty ps 1) 9999 n true _ ?hgw PN.out).mono ?_)
     (case hgw => exact GW.below HG.out (zB))
     rintro e w5 ⟨rfl, hb⟩
     have a1 := zA (below_step (zB) hb)
     have a2 := zA (blk_below (zK BR.out) hb)
     have a3 := zA (blk_below (zK BV.out) hb)
     have a4 := zA (Kd.R_below (d := Kd.string) (e := 9) (base := w.heap.size) (ok := fun _ => True) (zR HO.out) hb)
     clear HB BR BV HO
     have HB := a1
     have BR := a2
     have BV := a3
     have HO := a4
     clear a1 a2 a3 a4 hb
     have hnb := NE.out
     have hnc := NE.out.symm
     have b3 := zc1 BV.out
     have b4 := zF BV.out 1
     have b5 := zc0 BR.out
     have b6 := zc1 BR.out
     have b7 := zc2 BR.out
     have b8 := zc3 BR.out
     have b9 := zF BR.out 0
     have c0 := zF BR.out 1
     have c1 := zF BR.out 2
     have c2 := zF BR.out 3
     go_wp2
     go_roundg 1
     case measure => omega
     case rel => exact ⟨1, a, n, 0, by omega, by omega, by first | rfl | go_num, by first | omega | (intro _; omega), by first | omega | (intro _; first | rfl | omega), by first | omega | (intro _; first | rfl | omega), RST, ⟨zW HB.out⟩,
      ⟨by (with_reducible repeat (first | refine blk_drewN ?_ _ | refine blk_drew ?_ | refine blk_alloc ?_ _)); refine blk_far ?_ NE.out _; (with_reducible repeat (first | refine blk_drewN ?_ _ | refine blk_drew ?_ | refine blk_alloc ?_ _)); exact BR.out⟩, ⟨by (with_reducible repeat (first | refine blk_drewN ?_ _ | refine blk_drew ?_ | refine blk_alloc ?_ _)); refine blk_put (cs := #[.int .i64 a, .int .i64 0, .int .i64 0, .slice none 0 0]) ?_ 1 _ rfl; (with_reducible repeat (first | refine blk_drewN ?_ _ | refine blk_drew ?_ | refine blk_alloc ?_ _)); exact BV.out⟩, ⟨Kd.R_set (zR HO.out) BV.out (by decide) _ _⟩⟩
   ·obtain rfl : m = 0 := by omega
    obtain rfl := ha rfl; obtain rfl := c5 (by omega); obtain rfl := c3 (by omega)
    obtain ⟨pb, po, e_, hcell⟩ := Lb.C_string_plain (Kd.R_reads' HO.out).2.2 (by have := LEN.out; omega)
    cases e_
    have hx : wr.cell? ⟨pb, po, none⟩ = some (.string (rdOf ByteArray.empty ps 0)) := hcell 0 _ (by
     unfold rdOf
     rw [List.getD_eq_getElem?_getD, show (0 : Int).toNat = 0 from rfl, List.getElem?_eq_getElem (show 0 < ps.length by have := LEN.out; omega)]
     rfl)
    clear hcell
    have hidx : ∀ W : World, (Instr.index 183 (.agg #[.pointer (some ⟨gv, 0, none⟩), .pointer (some ⟨gv, 1, none⟩), .pointer (some ⟨gv, 2, none⟩)]) (.int .i64 0)).run Tryz.prog W = .ok (.pointer (some ⟨gv, 0, none⟩)) W := fun W => by kernel_rfl
    have hl : (0 : Int) < (ps.length : Int) := by have := LEN.out; omega
    have H := REST.out
    clear REST
    replace H := Option.bind_eq_some_iff.mp H
    obtain ⟨⟨n, ok⟩, hpn, H⟩ := H
    have PN := Aside0.mk hpn
    clear hpn
    cases ok with
    | false =>
     replace H : some impl_ParseVer.no = some (r1, r2, r3, r4, r5) := H
     simp only [impl_ParseVer.no, Option.some.injEq, Prod.mk.injEq] at H
     obtain ⟨rfl, rfl, rfl, rfl, rfl⟩ := H
     go_wp2_with (fail)
     (with_reducible refine (impl_ParseNum.calls k (rdOf ByteArray.empty ps 0) 9999 n false _ ?hgw PN.out).mono ?_)
     (case hgw => exact GW.below HG.out (zB))
     rintro e w5 ⟨rfl, hb⟩
     have a1 := zA (below_step (zB) hb)
     have a2 := zA (blk_below (zK BR.out) hb)
     have a3 := zA (blk_below (zK BV.out) hb)
     have a4 := zA (Kd.R_below (d := Kd.string) (e := 9) (base := w.heap.size) (ok := fun _ => True) (zR HO.out) hb)
     clear HB BR BV HO
     have HB := a1
     have BR := a2
     have BV := a3
     have HO := a4
     clear a1 a2 a3 a4 hb
     have hnb := NE.out
     have hnc := NE.out.symm
     have b3 := zc0 BV.out
     have b4 := zF BV.out 0
     have b5 := zc0 BR.out
     have b6 := zc1 BR.out
     have b7 := zc2 BR.out
     have b8 := zc3 BR.out
     have b9 := zF BR.out 0
     have c0 := zF BR.out 1
     have c1 := zF BR.out 2
     have c2 := zF BR.out 3
     go_wp2
     refine bodyPost_ret (results_ct rfl _ _ gr 32 #[.int .i64 0, .int .i64 0, .int .i64 0, .slice none 0 0] (0, 0) _ rfl (zk4 BR.out) Tryz.underlying32 rfl (by kernel_rfl)) rfl ?_
     exact ⟨_, rfl, Kd.R_nil _ _ _ _ _, zW HB.out⟩
    | true =>
     have RST := Aside0.mk H
     clear H
     go_wp2_with (fail)
     (with_reducible refine (impl_ParseNum.calls k (rdOf ByteArray.empty ps 0) 9999 n true _ ?hgw PN.out).mono ?_)
     (case hgw => exact GW.below HG.out (zB))
     rintro e w5 ⟨rfl, hb⟩
     have a1 := zA (below_step (zB) hb)
     have a2 := zA (blk_below (zK BR.out) hb)
     have a3 := zA (blk_below (zK BV.out) hb)
     have a4 := zA (Kd.R_below (d := Kd.string) (e := 9) (base := w.heap.size) (ok := fun _ => True) (zR HO.out) hb)
     clear HB BR BV HO
     have HB := a1
     have BR := a2
     have BV := a3
     have HO := a4
     clear a1 a2 a3 a4 hb
     have hnb := NE.out
     have hnc := NE.out.symm
     have b3 := zc0 BV.out
     have b4 := zF BV.out 0
     have b5 := zc0 BR.out
     have b6 := zc1 BR.out
     have b7 := zc2 BR.out
     have b8 := zc3 BR.out
     have b9 := zF BR.out 0
     have c0 := zF BR.out 1
     have c1 := zF BR.out 2
     have c2 := zF BR.out 3
     go_wp2
     go_roundg 2
     case measure => omega
     case rel => exact ⟨2, n, 0, 0, by omega, by omega, by first | rfl | go_num, by first | omega | (intro _; omega), by first | omega | (intro _; first | rfl | omega), by first | omega | (intro _; first | rfl | omega), RST, ⟨zW HB.out⟩,
      ⟨by (with_reducible repeat (first | refine blk_drewN ?_ _ | refine blk_drew ?_ | refine blk_alloc ?_ _)); refine blk_far ?_ NE.out _; (with_reducible repeat (first | refine blk_drewN ?_ _ | refine blk_drew ?_ | refine blk_alloc ?_ _)); exact BR.out⟩, ⟨by (with_reducible repeat (first | refine blk_drewN ?_ _ | refine blk_drew ?_ | refine blk_alloc ?_ _)); refine blk_put (cs := #[.int .i64 0, .int .i64 0, .int .i64 0, .slice none 0 0]) ?_ 0 _ rfl; (with_reducible repeat (first | refine blk_drewN ?_ _ | refine blk_drew ?_ | refine blk_alloc ?_ _)); exact BV.out⟩, ⟨Kd.R_set (zR HO.out) BV.out (by decide) _ _⟩⟩
 ·rw [if_neg hlen] at h
  simp only [impl_ParseVer.no, Option.some.injEq, Prod.mk.injEq] at h
  obtain ⟨rfl, rfl, rfl, rfl, rfl⟩ := h
  have d4 : ((ps.length : Int) == 3) = false := by simpa using fun e => hlen (by omega)
  have hl3' : ((ps.length : Int) != 3) = true := by simpa using fun e => hlen (by omega)
  clear hlen
  go_enter Tryz.func128, Tryz.ntmps128
  go_wp2_with (first
   | ((with_reducible refine gate_dst (N := 2) rfl ?_); refine box_event ?hg (N := 2) ?hd (cs := #[.int .i64 0, .int .i64 0, .int .i64 0, .slice none 0 0]) (t := 32) ?hr ?_; (case hd => rfl); (case hg => rfl); (case hr => first | (go_simp; done) | (go_simp; rfl)); intro gr hg w1 hbox hb; have a1 := zA (below_step HB.out hb); have BR := Aside0.mk hbox; have GR := zA ((by rw [hg]; exact Nat.le_refl _) : w.heap.size ≤ gr); clear HB; have HB := a1; clear a1; clear hb hbox hg)
   | (go_at_call 165; (with_reducible refine (strings_Cut.calls a0 (⟨#[45]⟩ : ByteArray) num pre has _ ?hgw CUT.out).mono ?_); (case hgw => exact GW.below HG.out HB.out); rintro e w2 ⟨rfl, hb⟩; have a1 := zA (below_step HB.out hb); have a2 := zA (blk_below BR.out hb); clear HB BR; have HB := a1; have BR := a2; clear a1 a2 hb)
   | (go_at_call 81; (with_reducible refine (strings_Split.calls num (⟨#[46]⟩ : ByteArray) ps _ ?hgw SPL.out).mono ?_); (case hgw => exact GW.below HG.out HB.out); rintro e w3 ⟨v3, rfl, ho, hb⟩; have a1 := zA (below_step HB.out hb); have a2 := zA (blk_below BR.out hb); have HO := zA (Kd.R_lower ho (below_size HB.out)); clear HB BR; have HB := a1; have BR := a2; clear a1 a2 hb ho; obtain ⟨Ao, co, eo⟩ := Kd.R_slice HO.out; subst eo; have hnb_ := trivial; have c6 := zc0 BR.out; have c7 := zF BR.out 0; have c8 := zc1 BR.out; have c9 := zF BR.out 1; have d0 := zc2 BR.out; have d1 := zF BR.out 2; have d2 := zc3 BR.out; have d3 := zF BR.out 3))
  refine bodyPost_ret (results_ct rfl _ _ gr 32 #[.int .i64 0, .int .i64 0, .int .i64 0, .slice none 0 0] (0, 0) _ rfl (zk4 BR.out) Tryz.underlying32 rfl (by kernel_rfl)) rfl ?_
  exact ⟨_, rfl, Kd.R_nil _ _ _ _ _, zW HB.out⟩
/-! ### strings_CutPrefix: function 167 -/
def strings_CutPrefix.f (a0 a1 : ByteArray) : Option (ByteArray × Bool) := some (⟨(Lib.trimPrefix a0.data.toList a1.data.toList).toArray⟩, Lib.hasPrefix a0.data.toList a1.data.toList)
theorem strings_CutPrefix.calls (a0 a1 r1 : ByteArray) (r2 : Bool) (w : World) (h : strings_CutPrefix.f a0 a1 = some (r1, r2)) :
  Calls Tryz.prog 167 #[.string a0, .string a1] w fun e w' => e = .returned (.tuple #[.string r1, .bool r2]) ∧ Drawn0 w w' := by
 obtain ⟨rfl, rfl⟩ := Prod.mk.inj (Option.some.inj h)
 refine (Tryz.strings_CutPrefix a0 a1 w).mono ?_
 rintro e w' ⟨rfl, rfl⟩
 exact ⟨rfl, Drawn0.refl _⟩
end Go.Proofs.YtpcdhoeoefoeoaaGreatDoor.PGC
