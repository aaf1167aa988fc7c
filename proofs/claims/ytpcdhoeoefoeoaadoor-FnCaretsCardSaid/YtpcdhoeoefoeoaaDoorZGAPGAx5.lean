/- The walks of the functions that these laws reach, and what each comes to: printed by this session's program. -/
import Derived.Test.YtpcdhoeoefoeoaaDoorZGAPGAx0
import Derived.Test.YtpcdhoeoefoeoaaDoorZGAPGAx3
import Derived.Test.YtpcdhoeoefoeoaaDoorZGAPGAx4
import Derived.Test.YtpcdhoeoefoeoaaDoorZGASays
namespace Go.Proofs.YtpcdhoeoefoeoaaDoor.PGA
open Go.RowKit Go.Proofs.YtpcdhoeoefoeoaaDoorW.PrintWords Go.Proofs.YtpcdhoeoefoeoaaDoorW.PrintLast Go.Proofs.YtpcdhoeoefoeoaaDoorW.PrintMore
attribute [local go_sem high] Go.Proofs.YtpcdhoeoefoeoaaDoor.Mine.str_gtr Go.Proofs.YtpcdhoeoefoeoaaDoor.Mine.str_leq Go.Proofs.YtpcdhoeoefoeoaaDoor.Mine.str_geq
attribute [local go_sem] max2_int min2_int max_two min_two max_three min_three max_four min_four   -- for this text's walks alone
set_option linter.unusedVariables false
set_option maxHeartbeats 8000000
set_option maxRecDepth 100000
set_option linter.unusedSimpArgs false
/-! ### impl_ParseNum: function 49 -/
mutual
def impl_ParseNum.j0 : Nat → ByteArray → Int → Option (Int × Bool)
 | 0, _, _ => none
 | k + 1, x0, x1 => impl_ParseNum.l0 k x0 x1 0 0
def impl_ParseNum.l0 : Nat → ByteArray → Int → Int → Int → Option (Int × Bool)
 | 0, _, _, _, _ => none
 | k + 1, x0, x1, x6, x7 => if x7 < (x0.size : Int) then (if 0 ≤ x7 then ((impl_isFigure.f (bt x0 x7)).bind fun t212 => (if t212 = true then (impl_ParseNum.l0 k x0 x1 (wrap64 ((wrap64 (x6 * 10)) + (((bt x0 x7) - 48) % 256))) (wrap64 (x7 + 1))) else (some (0, false)))) else (none)) else ((impl_NumText.f x6).bind fun t213 => (if t213.toList = x0.toList then (if x6 > x1 then (some (0, false)) else (some (x6, true))) else (some (0, false))))
end
def impl_ParseNum.f (k : Nat) (a0 : ByteArray) (a1 : Int) : Option (Int × Bool) := (impl_inRange.f (a0.size : Int) 1 7).bind fun t211 => (if t211 = true then (impl_ParseNum.j0 k a0 a1) else (some (0, false)))
theorem impl_ParseNum.calls (k : Nat) (a0 : ByteArray) (a1 : Int) (r1 : Int) (r2 : Bool) (w : World) (hG : GW w) (h : impl_ParseNum.f k a0 a1 = some (r1, r2)) :
  Calls Tryd.prog 49 #[.string a0, .int .i64 a1] w fun e w' => e = .returned (.tuple #[.int .i64 r1, .bool r2]) ∧ Below w.heap.size w w' := by
 have HG := Aside0.mk hG
 clear hG
 have HB := zA (Below.refl w.heap.size w)
 have H : ((impl_inRange.f (a0.size : Int) 1 7).bind fun t211 => (if t211 = true then (impl_ParseNum.j0 k a0 a1) else (some (0, false)))) = some (r1, r2) := h
 clear h
 replace H := Option.bind_eq_some_iff.mp H
 obtain ⟨t211, A30, H⟩ := H
 try dsimp only at H
 have A3 := Aside0.mk A30
 clear A30
 have HC4 := Aside0.mk H
 clear H
 go_enter Tryd.func49, Tryd.ntmps49
 go_upto_if 11 with (first | ((with_reducible refine zq 27 ?_); refine zg (some 10) Tryd.func27 #[.int .i64 (a0.size : Int), .int .i64 1, .int .i64 7] ?_; (with_reducible refine (impl_inRange.calls (a0.size : Int) 1 7 t211 _ A3.out).mono ?_); rintro e w' ⟨rfl, ⟨nd, rfl⟩⟩; refine ⟨_, rfl, ?_⟩))
 (try simp only [Act.put, zT])
 go_cut [] (fun wc => ∃ (kq : Nat), Aside0 (impl_ParseNum.j0 kq a0 a1 = some (r1, r2)) ∧ Aside0 (kq ≤ k) ∧ Aside0 (Below w.heap.size w wc))
 case first =>
  have H := HC4.out
  clear HC4
  by_cases c5 : t211 = true
  ·subst c5
   rw [if_pos rfl] at H
   have H' := Aside0.mk H
   clear H
   go_wp2
   go_meet
   case rel => exact ⟨_, (by first | exact H' | (subst_vars; exact H')), ⟨by first | omega | exact Nat.le_refl _⟩, ⟨zB⟩⟩
  ·replace c5 := Bool.eq_false_iff.mpr c5
   subst c5
   rw [if_neg zFT] at H
   simp only [Option.some.injEq, Prod.mk.injEq] at H
   obtain ⟨rfl, rfl⟩ := H
   go_wp2
   go_ret2
   exact ⟨zE, zB⟩
 case rest =>
  clear HC4
  try clear c2
  try clear p2
  try clear c4
  try clear c5
  obtain ⟨kq, HA, HJ3, HB⟩ := hcut
  cases kq with
  | zero => exact absurd HA.out (by simp [impl_ParseNum.j0])
  | succ kj3 =>
   have H := HA.out
   clear HA
   simp only [impl_ParseNum.j0] at H
   have H' := Aside0.mk H
   clear H
   go_wp2
   go_loopg [6, 7] kj3 (fun kq v6 v7 w' => ∃ (x6_2 : Int) (x7_2 : Int), v6 = .int .i64 x6_2 ∧ v7 = .int .i64 x7_2 ∧ Aside0 (impl_ParseNum.l0 kq a0 a1 x6_2 x7_2 = some (r1, r2)) ∧ Aside0 (kq ≤ kj3) ∧ Aside0 (Below w.heap.size w w'))
   case atStart => exact ⟨(0), (0), zS, zS, H', ⟨Nat.le_refl _⟩, ⟨zB⟩⟩
   case round =>
    clear H'
    try clear c2
    try clear p2
    try clear c4
    try clear c5
    try clear p2
    obtain ⟨x6_2, x7_2, rfl, rfl, HA, HK2, HB⟩ := hrel
    cases gk with
    | zero => exact absurd HA.out (by simp [impl_ParseNum.l0])
    | succ k2 =>
     have H := HA.out
     clear HA
     simp only [impl_ParseNum.l0] at H
     by_cases c6 : x7_2 < (a0.size : Int)
     ·rw [if_pos c6] at H
      have c6b0 := decide_eq_true c6
      clear c6
      by_cases c7 : 0 ≤ x7_2
      ·rw [if_pos c7] at H
       have c7b0 := decide_eq_true c7
       clear c7
       replace H := Option.bind_eq_some_iff.mp H
       obtain ⟨t212, A90, H⟩ := H
       try dsimp only at H
       have A9 := Aside0.mk A90
       clear A90
       by_cases c10 : t212 = true
       ·subst c10
        rw [if_pos rfl] at H
        have H' := Aside0.mk H
        clear H
        have p8 : 0 ≤ (x7_2 : Int) := zD
        have q8 : x7_2 < (a0.size : Int) := zD
        have hx8 := bt_at a0 x7_2
        replace p8 := eq_true p8
        replace q8 := eq_true q8
        go_wp2_with (first | ((with_reducible refine zq 54 ?_); refine zg (some 21) Tryd.func54 #[.int .u8 (bt a0 x7_2)] ?_; (with_reducible refine (impl_isFigure.calls (bt a0 x7_2) true _ A9.out).mono ?_); rintro e w' ⟨rfl, ⟨nd, rfl⟩⟩; refine ⟨_, rfl, ?_⟩; have p11 : 0 ≤ (x7_2 : Int) := zD; have q11 : x7_2 < (a0.size : Int) := zD; have hx11 := bt_at a0 x7_2; replace p11 := eq_true p11; replace q11 := eq_true q11))
        go_roundg k2
        case measure => have := HJ3.out; have := HK2.out; omega
        case rel => exact ⟨(wrap64 ((wrap64 (x6_2 * 10)) + (((bt a0 x7_2) - 48) % 256))), (wrap64 (x7_2 + 1)), zS, zS, H', ⟨by have := HJ3.out; have := HK2.out; omega⟩, ⟨zB⟩⟩
       ·replace c10 := Bool.eq_false_iff.mpr c10
        subst c10
        rw [if_neg zFT] at H
        simp only [Option.some.injEq, Prod.mk.injEq] at H
        obtain ⟨rfl, rfl⟩ := H
        have p8 : 0 ≤ (x7_2 : Int) := zD
        have q8 : x7_2 < (a0.size : Int) := zD
        have hx8 := bt_at a0 x7_2
        replace p8 := eq_true p8
        replace q8 := eq_true q8
        go_wp2_with (first | ((with_reducible refine zq 54 ?_); refine zg (some 21) Tryd.func54 #[.int .u8 (bt a0 x7_2)] ?_; (with_reducible refine (impl_isFigure.calls (bt a0 x7_2) false _ A9.out).mono ?_); rintro e w' ⟨rfl, ⟨nd, rfl⟩⟩; refine ⟨_, rfl, ?_⟩))
        go_ret2
        exact ⟨zE, zB⟩
      ·rw [if_neg c7] at H
       exact absurd H (by simp)
     ·rw [if_neg c6] at H
      have c6b0 := decide_eq_false c6
      clear c6
      replace H := Option.bind_eq_some_iff.mp H
      obtain ⟨t213, A120, H⟩ := H
      try dsimp only at H
      have A12 := Aside0.mk A120
      clear A120
      by_cases c13 : t213.toList = a0.toList
      ·rw [if_pos c13] at H
       have c13b0 : (t213.toList == a0.toList) = true := beq_iff_eq.mpr c13
       have c13b1 : (t213.toList != a0.toList) = false := bne_eq_false_iff_eq.mpr c13
       clear c13
       by_cases c14 : x6_2 > a1
       ·rw [if_pos c14] at H
        have c14b0 : decide (a1 < x6_2) = true := decide_eq_true c14
        clear c14
        simp only [Option.some.injEq, Prod.mk.injEq] at H
        obtain ⟨rfl, rfl⟩ := H
        go_wp2_with (first | ((with_reducible refine zq 15 ?_); refine zg (some 32) Tryd.func15 #[.int .i64 x6_2] ?_; (with_reducible refine (impl_NumText.calls x6_2 t213 _ ?side1 A12.out).mono ?_); (case side1 => exact GW.below HG.out (zB)); rintro e w15 ⟨rfl, hb⟩; refine ⟨_, rfl, ?_⟩; replace HB := zA (below_step (zB) hb); (try clear hb)))
        go_ret2
        exact ⟨zE, zB⟩
       ·rw [if_neg c14] at H
        have c14b0 : decide (a1 < x6_2) = false := decide_eq_false c14
        clear c14
        simp only [Option.some.injEq, Prod.mk.injEq] at H
        obtain ⟨rfl, rfl⟩ := H
        go_wp2_with (first | ((with_reducible refine zq 15 ?_); refine zg (some 32) Tryd.func15 #[.int .i64 x6_2] ?_; (with_reducible refine (impl_NumText.calls x6_2 t213 _ ?side1 A12.out).mono ?_); (case side1 => exact GW.below HG.out (zB)); rintro e w16 ⟨rfl, hb⟩; refine ⟨_, rfl, ?_⟩; replace HB := zA (below_step (zB) hb); (try clear hb)))
        go_ret2
        exact ⟨zE, zB⟩
      ·rw [if_neg c13] at H
       have c13b0 : (t213.toList == a0.toList) = false := beq_eq_false_iff_ne.mpr c13
       have c13b1 : (t213.toList != a0.toList) = true := bne_iff_ne.mpr c13
       simp only [Option.some.injEq, Prod.mk.injEq] at H
       obtain ⟨rfl, rfl⟩ := H
       go_wp2_with (first | ((with_reducible refine zq 15 ?_); refine zg (some 32) Tryd.func15 #[.int .i64 x6_2] ?_; (with_reducible refine (impl_NumText.calls x6_2 t213 _ ?side1 A12.out).mono ?_); (case side1 => exact GW.below HG.out (zB)); rintro e w17 ⟨rfl, hb⟩; refine ⟨_, rfl, ?_⟩; replace HB := zA (below_step (zB) hb); (try clear hb)))
       go_ret2
       exact ⟨zE, zB⟩
/-! ### impl_ParseVer: function 24 -/
def impl_ParseVer.no : Int × Int × Int × List ByteArray × Bool := (0, 0, 0, [], false)
/-- The numbers are read: what stands behind the dash, and whether all is told so. -/
def impl_ParseVer.fin (k : Nat) (a0 pre : ByteArray) (has : Bool) (a b c : Int) : Option (Int × Int × Int × List ByteArray × Bool) :=
 if has = true then (strings_Split.f pre (⟨#[46]⟩ : ByteArray)).bind fun q => (impl_VerText.f k a b c q).bind fun t => if t.toList = a0.toList then some (a, b, c, q, true) else some impl_ParseVer.no
 else (impl_VerText.f k a b c []).bind fun t => if t.toList = a0.toList then some (a, b, c, [], true) else some impl_ParseVer.no
def impl_ParseVer.n1 (k : Nat) (a0 pre : ByteArray) (has : Bool) (ps : List ByteArray) (a b : Int) : Option (Int × Int × Int × List ByteArray × Bool) := (impl_ParseNum.f k (rdOf ByteArray.empty ps 2) 9999).bind fun t => if t.2 = true then impl_ParseVer.fin k a0 pre has a b t.1 else some impl_ParseVer.no
def impl_ParseVer.n2 (k : Nat) (a0 pre : ByteArray) (has : Bool) (ps : List ByteArray) (a : Int) : Option (Int × Int × Int × List ByteArray × Bool) := (impl_ParseNum.f k (rdOf ByteArray.empty ps 1) 9999).bind fun t => if t.2 = true then impl_ParseVer.n1 k a0 pre has ps a t.1 else some impl_ParseVer.no
def impl_ParseVer.n3 (k : Nat) (a0 pre : ByteArray) (has : Bool) (ps : List ByteArray) : Option (Int × Int × Int × List ByteArray × Bool) := (impl_ParseNum.f k (rdOf ByteArray.empty ps 0) 9999).bind fun t => if t.2 = true then impl_ParseVer.n2 k a0 pre has ps t.1 else some impl_ParseVer.no
/-- So many numbers are still to be read; what is read so far. -/
def impl_ParseVer.rest (k : Nat) (a0 pre : ByteArray) (has : Bool) (ps : List ByteArray) (m : Nat) (a b c : Int) : Option (Int × Int × Int × List ByteArray × Bool) :=
 match m with
 | 0 => impl_ParseVer.fin k a0 pre has a b c
 | 1 => impl_ParseVer.n1 k a0 pre has ps a b
 | 2 => impl_ParseVer.n2 k a0 pre has ps a
 | _ => impl_ParseVer.n3 k a0 pre has ps
def impl_ParseVer.f (k : Nat) (a0 : ByteArray) : Option (Int × Int × Int × List ByteArray × Bool) :=
 (strings_Cut.f a0 (⟨#[45]⟩ : ByteArray)).bind fun t => (strings_Split.f t.1 (⟨#[46]⟩ : ByteArray)).bind fun ps => if ps.length = 3 then impl_ParseVer.n3 k a0 t.2.1 t.2.2 ps else some impl_ParseVer.no
theorem impl_ParseVer.calls (k : Nat) (a0 : ByteArray) (r1 : Int) (r2 : Int) (r3 : Int) (r4 : List ByteArray) (r5 : Bool) (w : World) (hG : GW w) (h : impl_ParseVer.f k a0 = some (r1, r2, r3, r4, r5)) :
  Calls Tryd.prog 24 #[.string a0] w fun e w' => ∃ v3_ : Value, e = .returned (.tuple #[.agg #[.int .i64 r1, .int .i64 r2, .int .i64 r3, v3_], .bool r5]) ∧ Kd.R Kd.string 9 w' w.heap.size (fun _ => True) v3_ r4 ∧ Below w.heap.size w w' := by
 have hu_ := Tryd.underlying26
 have HG := Aside0.mk hG
 have HB := zA (Below.refl w.heap.size w)
 clear hG
 unfold impl_ParseVer.f at h
 replace h := Option.bind_eq_some_iff.mp h
 obtain ⟨t, hcut, h⟩ := h
 replace h := Option.bind_eq_some_iff.mp h
 obtain ⟨ps, hsplit, h⟩ := h
 obtain ⟨num, pre, has⟩ := t
 have CUT := Aside0.mk hcut
 have SPL := Aside0.mk hsplit
 clear hcut hsplit
 by_cases hlen : ps.length = 3
 ·rw [if_pos hlen] at h
  have REST := Aside0.mk h
  have LEN := Aside0.mk hlen
  have hl3 : ((ps.length : Int) == 3) = true := by rw [hlen]; rfl
  have hl3' : ((ps.length : Int) != 3) = false := by rw [hlen]; rfl
  clear h hlen
  go_enter Tryd.func24, Tryd.ntmps24
  go_wp2_with (first
   | ((with_reducible refine gate_dst (N := 2) rfl ?_); refine box_event ?hg (N := 2) ?hd (cs := #[.int .i64 0, .int .i64 0, .int .i64 0, .slice none 0 0]) (t := 26) ?hr ?_; (case hd => rfl); (case hg => rfl); (case hr => first | (go_simp; done) | (go_simp; rfl)); intro gr hg w1 hbox hb; have n0_ := zA (below_step HB.out hb); have BR := Aside0.mk hbox; have GR := zA ((by rw [hg]; exact Nat.le_refl _) : w.heap.size ≤ gr); clear HB; have HB := n0_; clear n0_; clear hb hbox hg)
   | (go_at_call 48; (with_reducible refine (strings_Cut.calls a0 (⟨#[45]⟩ : ByteArray) num pre has _ ?hgw CUT.out).mono ?_); (case hgw => exact GW.below HG.out HB.out); rintro e w2 ⟨rfl, hb⟩; have n0_ := zA (below_step HB.out hb); have n1_ := zA (blk_below BR.out hb); clear HB BR; have HB := n0_; have BR := n1_; clear n0_ n1_ hb)
   | (go_at_call 12; (with_reducible refine (strings_Split.calls num (⟨#[46]⟩ : ByteArray) ps _ ?hgw SPL.out).mono ?_); (case hgw => exact GW.below HG.out HB.out); rintro e w3 ⟨v3, rfl, ho, hb⟩; have n0_ := zA (below_step HB.out hb); have n1_ := zA (blk_below BR.out hb); have HO := zA (Kd.R_lower ho (below_size HB.out)); clear HB BR; have HB := n0_; have BR := n1_; clear n0_ n1_ hb ho; obtain ⟨Ao, co, eo⟩ := Kd.R_slice HO.out; subst eo)
   | ((with_reducible refine gate_dst (N := 8) rfl ?_); refine box_event ?hg (N := 8) ?hd (cs := #[.int .i64 0, .int .i64 0, .int .i64 0, .slice none 0 0]) (t := 26) ?hr ?_; (case hd => rfl); (case hg => rfl); (case hr => first | (go_simp; done) | (go_simp; rfl)); intro gv hg w4 hbox hb; have n0_ := zA (below_step HB.out hb); have n1_ := zA (blk_below BR.out hb); have n2_ := zA (Kd.R_below HO.out hb); have BV := Aside0.mk hbox; have GV := zA ((by rw [hg]; exact below_size HB.out) : w.heap.size ≤ gv); have NE := zA ((by rw [hg]; exact Nat.ne_of_lt (blk_lt BR.out)) : gr ≠ gv); clear HB BR HO; have HB := n0_; have BR := n1_; have HO := n2_; clear n0_ n1_ n2_; clear hb hbox hg))
  go_loopg [29] 3 (fun gg s29 wr => ∃ (m : Nat) (a b c : Int), m ≤ 3 ∧ m ≤ gg ∧ s29 = .int .i64 ((3 - m : Nat) : Int) ∧ (m = 3 → a = 0) ∧ (2 ≤ m → b = 0) ∧ (1 ≤ m → c = 0) ∧ Aside0 (impl_ParseVer.rest k a0 pre has ps m a b c = some (r1, r2, r3, r4, r5)) ∧ Aside0 (Below w.heap.size w wr) ∧
   Aside0 (wr.heap[gr]? = some (.cells #[.int .i64 0, .int .i64 0, .int .i64 0, .slice none 0 0] 26 (0, 0))) ∧ Aside0 (wr.heap[gv]? = some (.cells #[.int .i64 a, .int .i64 b, .int .i64 c, .slice none 0 0] 26 (0, 0))) ∧
   Aside0 (Kd.string.R 9 wr w.heap.size (fun _ => True) (.slice Ao ps.length co) ps))
  case atStart => exact ⟨3, 0, 0, 0, Nat.le_refl _, Nat.le_refl _, rfl, fun _ => rfl, fun _ => rfl, fun _ => rfl, REST, HB, BR, BV, HO⟩
  case round =>
   clear HB BR BV HO
   obtain ⟨m, a, b, c, hm3, hmg, rfl, ha, hb0, hc0, REST, HB, BR, BV, HO⟩ := hrel
   rcases m with _ | _ | _ | m
   ·
    have H := REST.out
    clear REST
    replace H : impl_ParseVer.fin k a0 pre has a b c = some (r1, r2, r3, r4, r5) := H
    unfold impl_ParseVer.fin at H
    cases has with
    | true =>
     simp only [if_true] at H
     replace H := Option.bind_eq_some_iff.mp H
     obtain ⟨q, hq, H⟩ := H
     replace H := Option.bind_eq_some_iff.mp H
     obtain ⟨t, ht, H⟩ := H
     have SQ := Aside0.mk hq
     have VT := Aside0.mk ht
     clear hq ht
     go_wp2_with (fail)
     (with_reducible refine (strings_Split.calls pre (⟨#[46]⟩ : ByteArray) q _ ?hgw SQ.out).mono ?_)
     (case hgw => exact GW.below HG.out (zW HB.out))
     rintro e w5 ⟨v5, rfl, ho, hb⟩
     replace BR := zA (blk_below (g := gr) (o := .cells #[.int .i64 0, .int .i64 0, .int .i64 0, .slice none 0 0] 26 (0, 0)) (by (with_reducible repeat (first | refine blk_drewN ?_ _ | refine blk_drew ?_ | refine blk_alloc ?_ _)); exact BR.out) hb)
     replace BV := zA (blk_below (g := gv) (o := .cells #[.int .i64 a, .int .i64 b, .int .i64 c, .slice none 0 0] 26 (0, 0)) (by (with_reducible repeat (first | refine blk_drewN ?_ _ | refine blk_drew ?_ | refine blk_alloc ?_ _)); exact BV.out) hb)
     have HQ := zA (Kd.R_lower ho (below_size (zW HB.out)))
     replace HB := zh HB hb
     clear HO ho hb
     obtain ⟨Aq, cq, eq_⟩ := Kd.R_slice HQ.out
     subst eq_
     have hnb := NE.out
     have hnc := NE.out.symm
     have vc0 : w5.cell? ⟨gv, 0, none⟩ = some (.int .i64 a) := (blk_cell BV.out 0).trans rfl
     have vf0 := blk_frozen BV.out 0
     have vc1 : w5.cell? ⟨gv, 1, none⟩ = some (.int .i64 b) := (blk_cell BV.out 1).trans rfl
     have vf1 := blk_frozen BV.out 1
     have vc2 : w5.cell? ⟨gv, 2, none⟩ = some (.int .i64 c) := (blk_cell BV.out 2).trans rfl
     have vf2 := blk_frozen BV.out 2
     have vc3 : w5.cell? ⟨gv, 3, none⟩ = some (.slice none 0 0) := (blk_cell BV.out 3).trans rfl
     have vf3 := blk_frozen BV.out 3
     go_wp2_with (fail)
     (with_reducible refine (impl_VerText.calls k a b c _ _ q t _ ?side1 ?side2 ?hgw VT.out).mono ?_)
     (case side1 => exact (Kd.R_reads' (Kd.R_set (zR HQ.out) BV.out (by decide) _ _)).2.2)
     (case side2 => exact (Kd.R_reads' HQ.out).2.1)
     (case hgw => exact GW.below HG.out (zW HB.out))
     rintro e w6 ⟨rfl, hb⟩
     replace HB := zh HB hb
     replace BR := zA (blk_below (g := gr) (o := .cells #[.int .i64 0, .int .i64 0, .int .i64 0, .slice none 0 0] 26 (0, 0)) (by (with_reducible repeat (first | refine blk_drewN ?_ _ | refine blk_drew ?_ | refine blk_alloc ?_ _)); refine blk_far ?_ NE.out _; (with_reducible repeat (first | refine blk_drewN ?_ _ | refine blk_drew ?_ | refine blk_alloc ?_ _)); exact BR.out) hb)
     replace HQ := zA (Kd.R_below (Kd.R_set (zR HQ.out) BV.out (by decide) _ _) hb)
     replace BV := zA (blk_below (g := gv) (o := .cells #[.int .i64 a, .int .i64 b, .int .i64 c, .slice Aq q.length cq] 26 (0, 0)) (by (with_reducible repeat (first | refine blk_drewN ?_ _ | refine blk_drew ?_ | refine blk_alloc ?_ _)); refine blk_put (cs := #[.int .i64 a, .int .i64 b, .int .i64 c, .slice none 0 0]) ?_ 3 _ rfl; (with_reducible repeat (first | refine blk_drewN ?_ _ | refine blk_drew ?_ | refine blk_alloc ?_ _)); exact BV.out) hb)
     clear vc0 vc1 vc2 vc3 vf0 vf1 vf2 vf3 hb
     have vc0 : w6.cell? ⟨gv, 0, none⟩ = some (.int .i64 a) := (blk_cell BV.out 0).trans rfl
     have vf0 := blk_frozen BV.out 0
     have vc1 : w6.cell? ⟨gv, 1, none⟩ = some (.int .i64 b) := (blk_cell BV.out 1).trans rfl
     have vf1 := blk_frozen BV.out 1
     have vc2 : w6.cell? ⟨gv, 2, none⟩ = some (.int .i64 c) := (blk_cell BV.out 2).trans rfl
     have vf2 := blk_frozen BV.out 2
     have vc3 : w6.cell? ⟨gv, 3, none⟩ = some (.slice Aq q.length cq) := (blk_cell BV.out 3).trans rfl
     have vf3 := blk_frozen BV.out 3
     have rc0 : w6.cell? ⟨gr, 0, none⟩ = some (.int .i64 0) := (blk_cell BR.out 0).trans rfl
     have rf0 := blk_frozen BR.out 0
     have rc1 : w6.cell? ⟨gr, 1, none⟩ = some (.int .i64 0) := (blk_cell BR.out 1).trans rfl
     have rf1 := blk_frozen BR.out 1
     have rc2 : w6.cell? ⟨gr, 2, none⟩ = some (.int .i64 0) := (blk_cell BR.out 2).trans rfl
     have rf2 := blk_frozen BR.out 2
     have rc3 : w6.cell? ⟨gr, 3, none⟩ = some (.slice none 0 0) := (blk_cell BR.out 3).trans rfl
     have rf3 := blk_frozen BR.out 3
     by_cases hs : t.toList = a0.toList
     ·rw [if_pos hs] at H
      simp only [Option.some.injEq, Prod.mk.injEq] at H
      obtain ⟨rfl, rfl, rfl, rfl, rfl⟩ := H
      have s0 : (t.toList == a0.toList) = true := beq_iff_eq.mpr hs
      have s1 : (t.toList != a0.toList) = false := bne_eq_false_iff_eq.mpr hs
      clear hs
      go_wp2
      refine bodyPost_ret (results_ct rfl _ _ gr 26 #[.int .i64 a, .int .i64 b, .int .i64 c, .slice Aq q.length cq] (0, 0) _ rfl (by (with_reducible repeat (first | refine blk_drewN ?_ _ | refine blk_drew ?_ | refine blk_alloc ?_ _)); refine blk_put (cs := #[.int .i64 a, .int .i64 b, .int .i64 c, .slice none 0 0]) ?_ 3 _ rfl; (with_reducible repeat (first | refine blk_drewN ?_ _ | refine blk_drew ?_ | refine blk_alloc ?_ _)); refine blk_put (cs := #[.int .i64 a, .int .i64 b, .int .i64 0, .slice none 0 0]) ?_ 2 _ rfl; (with_reducible repeat (first | refine blk_drewN ?_ _ | refine blk_drew ?_ | refine blk_alloc ?_ _)); refine blk_put (cs := #[.int .i64 a, .int .i64 0, .int .i64 0, .slice none 0 0]) ?_ 1 _ rfl; (with_reducible repeat (first | refine blk_drewN ?_ _ | refine blk_drew ?_ | refine blk_alloc ?_ _)); refine blk_put (cs := #[.int .i64 0, .int .i64 0, .int .i64 0, .slice none 0 0]) ?_ 0 _ rfl; (with_reducible repeat (first | refine blk_drewN ?_ _ | refine blk_drew ?_ | refine blk_alloc ?_ _)); exact BR.out) Tryd.underlying26 rfl (by kernel_rfl)) rfl ?_
      exact ⟨_, rfl, by (with_reducible repeat (first | apply Kd.R_alloc | apply Kd.R_drewN | apply Kd.R_drew)); exact Kd.R_mono (Kd.R_far (p := ⟨gr, 3, none⟩) (Kd.R_far (p := ⟨gr, 2, none⟩) (Kd.R_far (p := ⟨gr, 1, none⟩) (Kd.R_far (p := ⟨gr, 0, none⟩) (Kd.R_types HQ.out BR.out (by decide)) (fun _ hk => hk.2) (.int .i64 a)) (fun _ hk => hk.2) (.int .i64 b)) (fun _ hk => hk.2) (.int .i64 c)) (fun _ hk => hk.2) (.slice Aq q.length cq)) (fun _ _ => trivial), zW HB.out⟩
     ·rw [if_neg hs] at H
      simp only [impl_ParseVer.no, Option.some.injEq, Prod.mk.injEq] at H
      obtain ⟨rfl, rfl, rfl, rfl, rfl⟩ := H
      have s0 : (t.toList == a0.toList) = false := beq_eq_false_iff_ne.mpr hs
      have s1 : (t.toList != a0.toList) = true := bne_iff_ne.mpr hs
      clear hs
      go_wp2
      refine bodyPost_ret (results_ct rfl _ _ gr 26 #[.int .i64 0, .int .i64 0, .int .i64 0, .slice none 0 0] (0, 0) _ rfl (by (with_reducible repeat (first | refine blk_drewN ?_ _ | refine blk_drew ?_ | refine blk_alloc ?_ _)); refine blk_put (cs := #[.int .i64 0, .int .i64 0, .int .i64 0, .slice none 0 0]) ?_ 3 _ rfl; (with_reducible repeat (first | refine blk_drewN ?_ _ | refine blk_drew ?_ | refine blk_alloc ?_ _)); refine blk_put (cs := #[.int .i64 0, .int .i64 0, .int .i64 0, .slice none 0 0]) ?_ 2 _ rfl; (with_reducible repeat (first | refine blk_drewN ?_ _ | refine blk_drew ?_ | refine blk_alloc ?_ _)); refine blk_put (cs := #[.int .i64 0, .int .i64 0, .int .i64 0, .slice none 0 0]) ?_ 1 _ rfl; (with_reducible repeat (first | refine blk_drewN ?_ _ | refine blk_drew ?_ | refine blk_alloc ?_ _)); refine blk_put (cs := #[.int .i64 0, .int .i64 0, .int .i64 0, .slice none 0 0]) ?_ 0 _ rfl; (with_reducible repeat (first | refine blk_drewN ?_ _ | refine blk_drew ?_ | refine blk_alloc ?_ _)); exact BR.out) Tryd.underlying26 rfl (by kernel_rfl)) rfl ?_
      exact ⟨_, rfl, Kd.R_nil _ _ _ _ _, zW HB.out⟩
    | false =>
     simp only [Bool.false_eq_true, if_false] at H
     replace H := Option.bind_eq_some_iff.mp H
     obtain ⟨t, ht, H⟩ := H
     have VT := Aside0.mk ht
     clear ht HO
     have hnb := NE.out
     have hnc := NE.out.symm
     have vc0 : wr.cell? ⟨gv, 0, none⟩ = some (.int .i64 a) := (blk_cell BV.out 0).trans rfl
     have vf0 := blk_frozen BV.out 0
     have vc1 : wr.cell? ⟨gv, 1, none⟩ = some (.int .i64 b) := (blk_cell BV.out 1).trans rfl
     have vf1 := blk_frozen BV.out 1
     have vc2 : wr.cell? ⟨gv, 2, none⟩ = some (.int .i64 c) := (blk_cell BV.out 2).trans rfl
     have vf2 := blk_frozen BV.out 2
     have vc3 : wr.cell? ⟨gv, 3, none⟩ = some (.slice none 0 0) := (blk_cell BV.out 3).trans rfl
     have vf3 := blk_frozen BV.out 3
     go_wp2_with (fail)
     (refine (impl_VerText.calls k a b c none 0 [] t _ ?side1 ?side2 ?hgw VT.out).mono ?_)
     (case side1 => exact Kd.C_nil _ _)
     (case side2 => exact Nat.le_refl _)
     (case hgw => exact GW.below HG.out (zW HB.out))
     rintro e w6 ⟨rfl, hb⟩
     replace HB := zh HB hb
     replace BR := zA (blk_below (g := gr) (o := .cells #[.int .i64 0, .int .i64 0, .int .i64 0, .slice none 0 0] 26 (0, 0)) (by (with_reducible repeat (first | refine blk_drewN ?_ _ | refine blk_drew ?_ | refine blk_alloc ?_ _)); exact BR.out) hb)
     replace BV := zA (blk_below (g := gv) (o := .cells #[.int .i64 a, .int .i64 b, .int .i64 c, .slice none 0 0] 26 (0, 0)) (by (with_reducible repeat (first | refine blk_drewN ?_ _ | refine blk_drew ?_ | refine blk_alloc ?_ _)); exact BV.out) hb)
     clear vc0 vc1 vc2 vc3 vf0 vf1 vf2 vf3 hb
     have vc0 : w6.cell? ⟨gv, 0, none⟩ = some (.int .i64 a) := (blk_cell BV.out 0).trans rfl
     have vf0 := blk_frozen BV.out 0
     have vc1 : w6.cell? ⟨gv, 1, none⟩ = some (.int .i64 b) := (blk_cell BV.out 1).trans rfl
     have vf1 := blk_frozen BV.out 1
     have vc2 : w6.cell? ⟨gv, 2, none⟩ = some (.int .i64 c) := (blk_cell BV.out 2).trans rfl
     have vf2 := blk_frozen BV.out 2
     have vc3 : w6.cell? ⟨gv, 3, none⟩ = some (.slice none 0 0) := (blk_cell BV.out 3).trans rfl
     have vf3 := blk_frozen BV.out 3
     have rc0 : w6.cell? ⟨gr, 0, none⟩ = some (.int .i64 0) := (blk_cell BR.out 0).trans rfl
     have rf0 := blk_frozen BR.out 0
     have rc1 : w6.cell? ⟨gr, 1, none⟩ = some (.int .i64 0) := (blk_cell BR.out 1).trans rfl
     have rf1 := blk_frozen BR.out 1
     have rc2 : w6.cell? ⟨gr, 2, none⟩ = some (.int .i64 0) := (blk_cell BR.out 2).trans rfl
     have rf2 := blk_frozen BR.out 2
     have rc3 : w6.cell? ⟨gr, 3, none⟩ = some (.slice none 0 0) := (blk_cell BR.out 3).trans rfl
     have rf3 := blk_frozen BR.out 3
     by_cases hs : t.toList = a0.toList
     ·rw [if_pos hs] at H
      simp only [Option.some.injEq, Prod.mk.injEq] at H
      obtain ⟨rfl, rfl, rfl, rfl, rfl⟩ := H
      have s0 : (t.toList == a0.toList) = true := beq_iff_eq.mpr hs
      have s1 : (t.toList != a0.toList) = false := bne_eq_false_iff_eq.mpr hs
      clear hs
      go_wp2
      refine bodyPost_ret (results_ct rfl _ _ gr 26 #[.int .i64 a, .int .i64 b, .int .i64 c, .slice none 0 0] (0, 0) _ rfl (by (with_reducible repeat (first | refine blk_drewN ?_ _ | refine blk_drew ?_ | refine blk_alloc ?_ _)); refine blk_put (cs := #[.int .i64 a, .int .i64 b, .int .i64 c, .slice none 0 0]) ?_ 3 _ rfl; (with_reducible repeat (first | refine blk_drewN ?_ _ | refine blk_drew ?_ | refine blk_alloc ?_ _)); refine blk_put (cs := #[.int .i64 a, .int .i64 b, .int .i64 0, .slice none 0 0]) ?_ 2 _ rfl; (with_reducible repeat (first | refine blk_drewN ?_ _ | refine blk_drew ?_ | refine blk_alloc ?_ _)); refine blk_put (cs := #[.int .i64 a, .int .i64 0, .int .i64 0, .slice none 0 0]) ?_ 1 _ rfl; (with_reducible repeat (first | refine blk_drewN ?_ _ | refine blk_drew ?_ | refine blk_alloc ?_ _)); refine blk_put (cs := #[.int .i64 0, .int .i64 0, .int .i64 0, .slice none 0 0]) ?_ 0 _ rfl; (with_reducible repeat (first | refine blk_drewN ?_ _ | refine blk_drew ?_ | refine blk_alloc ?_ _)); exact BR.out) Tryd.underlying26 rfl (by kernel_rfl)) rfl ?_
      exact ⟨_, rfl, Kd.R_nil _ _ _ _ _, zW HB.out⟩
     ·rw [if_neg hs] at H
      simp only [impl_ParseVer.no, Option.some.injEq, Prod.mk.injEq] at H
      obtain ⟨rfl, rfl, rfl, rfl, rfl⟩ := H
      have s0 : (t.toList == a0.toList) = false := beq_eq_false_iff_ne.mpr hs
      have s1 : (t.toList != a0.toList) = true := bne_iff_ne.mpr hs
      clear hs
      go_wp2
      refine bodyPost_ret (results_ct rfl _ _ gr 26 #[.int .i64 0, .int .i64 0, .int .i64 0, .slice none 0 0] (0, 0) _ rfl (by (with_reducible repeat (first | refine blk_drewN ?_ _ | refine blk_drew ?_ | refine blk_alloc ?_ _)); refine blk_put (cs := #[.int .i64 0, .int .i64 0, .int .i64 0, .slice none 0 0]) ?_ 3 _ rfl; (with_reducible repeat (first | refine blk_drewN ?_ _ | refine blk_drew ?_ | refine blk_alloc ?_ _)); refine blk_put (cs := #[.int .i64 0, .int .i64 0, .int .i64 0, .slice none 0 0]) ?_ 2 _ rfl; (with_reducible repeat (first | refine blk_drewN ?_ _ | refine blk_drew ?_ | refine blk_alloc ?_ _)); refine blk_put (cs := #[.int .i64 0, .int .i64 0, .int .i64 0, .slice none 0 0]) ?_ 1 _ rfl; (with_reducible repeat (first | refine blk_drewN ?_ _ | refine blk_drew ?_ | refine blk_alloc ?_ _)); refine blk_put (cs := #[.int .i64 0, .int .i64 0, .int .i64 0, .slice none 0 0]) ?_ 0 _ rfl; (with_reducible repeat (first | refine blk_drewN ?_ _ | refine blk_drew ?_ | refine blk_alloc ?_ _)); exact BR.out) Tryd.underlying26 rfl (by kernel_rfl)) rfl ?_
      exact ⟨_, rfl, Kd.R_nil _ _ _ _ _, zW HB.out⟩
   ·
    obtain rfl := hc0 (by omega)
    obtain ⟨pb, po, e_, hcell⟩ := Lb.C_string_plain (Kd.R_reads' HO.out).2.2 (by have := LEN.out; omega)
    cases e_
    have hx : wr.cell? ⟨pb, po + 2, none⟩ = some (.string (rdOf ByteArray.empty ps 2)) := hcell 2 _ (by
     unfold rdOf
     rw [List.getD_eq_getElem?_getD, show (2 : Int).toNat = 2 from rfl, List.getElem?_eq_getElem (show 2 < ps.length by have := LEN.out; omega)]
     rfl)
    clear hcell
    have hidx : ∀ W : World, (Instr.index 86 (.agg #[.pointer (some ⟨gv, 0, none⟩), .pointer (some ⟨gv, 1, none⟩), .pointer (some ⟨gv, 2, none⟩)]) (.int .i64 2)).run Tryd.prog W = .ok (.pointer (some ⟨gv, 2, none⟩)) W := fun W => by kernel_rfl
    have hl : (2 : Int) < (ps.length : Int) := by have := LEN.out; omega
    have H := REST.out
    clear REST
    replace H := Option.bind_eq_some_iff.mp H
    obtain ⟨⟨n, ok⟩, hpn, H⟩ := H
    have PN := Aside0.mk hpn
    clear hpn
    cases ok with
    | false =>
     replace H : some impl_ParseVer.no = some (r1, r2, r3, r4, r5) := H
     simp only [impl_ParseVer.no, Option.some.injEq, Prod.mk.injEq] at H
     obtain ⟨rfl, rfl, rfl, rfl, rfl⟩ := H
     go_wp2_with (fail)
     (with_reducible refine (impl_ParseNum.calls k (rdOf ByteArray.empty ps 2) 9999 n false _ ?hgw PN.out).mono ?_)
     (case hgw => exact GW.below HG.out (zB))
     rintro e w5 ⟨rfl, hb⟩
     have n0_ := zA (below_step (zB) hb)
     have n1_ := zA (blk_below (g := gr) (o := .cells #[.int .i64 0, .int .i64 0, .int .i64 0, .slice none 0 0] 26 (0, 0)) (by (with_reducible repeat (first | refine blk_drewN ?_ _ | refine blk_drew ?_ | refine blk_alloc ?_ _)); exact BR.out) hb)
     have n2_ := zA (blk_below (g := gv) (o := .cells #[.int .i64 a, .int .i64 b, .int .i64 0, .slice none 0 0] 26 (0, 0)) (by (with_reducible repeat (first | refine blk_drewN ?_ _ | refine blk_drew ?_ | refine blk_alloc ?_ _)); exact BV.out) hb)
     have n3_ := zA (Kd.R_below (d := Kd.string) (e := 9) (base := w.heap.size) (ok := fun _ => True) (zR HO.out) hb)
     clear HB BR BV HO
     have HB := n0_
     have BR := n1_
     have BV := n2_
     have HO := n3_
     clear n0_ n1_ n2_ n3_ hb
     have hnb := NE.out
     have hnc := NE.out.symm
     have cv0 : w5.cell? ⟨gv, 2, none⟩ = some (.int .i64 0) := (blk_cell BV.out 2).trans rfl
     have fv0 := blk_frozen BV.out 2
     have cr0 : w5.cell? ⟨gr, 0, none⟩ = some (.int .i64 0) := (blk_cell BR.out 0).trans rfl
     have cr1 : w5.cell? ⟨gr, 1, none⟩ = some (.int .i64 0) := (blk_cell BR.out 1).trans rfl
     have cr2 : w5.cell? ⟨gr, 2, none⟩ = some (.int .i64 0) := (blk_cell BR.out 2).trans rfl
     have cr3 : w5.cell? ⟨gr, 3, none⟩ = some (.slice none 0 0) := (blk_cell BR.out 3).trans rfl
     have fr0 := blk_frozen BR.out 0
     have fr1 := blk_frozen BR.out 1
     have fr2 := blk_frozen BR.out 2
     have fr3 := blk_frozen BR.out 3
     go_wp2
     refine bodyPost_ret (results_ct rfl _ _ gr 26 #[.int .i64 0, .int .i64 0, .int .i64 0, .slice none 0 0] (0, 0) _ rfl (by (with_reducible repeat (first | refine blk_drewN ?_ _ | refine blk_drew ?_ | refine blk_alloc ?_ _)); refine blk_put (cs := #[.int .i64 0, .int .i64 0, .int .i64 0, .slice none 0 0]) ?_ 3 _ rfl; (with_reducible repeat (first | refine blk_drewN ?_ _ | refine blk_drew ?_ | refine blk_alloc ?_ _)); refine blk_put (cs := #[.int .i64 0, .int .i64 0, .int .i64 0, .slice none 0 0]) ?_ 2 _ rfl; (with_reducible repeat (first | refine blk_drewN ?_ _ | refine blk_drew ?_ | refine blk_alloc ?_ _)); refine blk_put (cs := #[.int .i64 0, .int .i64 0, .int .i64 0, .slice none 0 0]) ?_ 1 _ rfl; (with_reducible repeat (first | refine blk_drewN ?_ _ | refine blk_drew ?_ | refine blk_alloc ?_ _)); refine blk_put (cs := #[.int .i64 0, .int .i64 0, .int .i64 0, .slice none 0 0]) ?_ 0 _ rfl; (with_reducible repeat (first | refine blk_drewN ?_ _ | refine blk_drew ?_ | refine blk_alloc ?_ _)); exact BR.out) Tryd.underlying26 rfl (by kernel_rfl)) rfl ?_
     exact ⟨_, rfl, Kd.R_nil _ _ _ _ _, zW HB.out⟩
    | true =>
     have RST := Aside0.mk H
     clear H
     go_wp2_with (fail)
     (with_reducible refine (impl_ParseNum.calls k (rdOf ByteArray.empty ps 2) 9999 n true _ ?hgw PN.out).mono ?_)
     (case hgw => exact GW.below HG.out (zB))
     rintro e w5 ⟨rfl, hb⟩
     have n0_ := zA (below_step (zB) hb)
     have n1_ := zA (blk_below (g := gr) (o := .cells #[.int .i64 0, .int .i64 0, .int .i64 0, .slice none 0 0] 26 (0, 0)) (by (with_reducible repeat (first | refine blk_drewN ?_ _ | refine blk_drew ?_ | refine blk_alloc ?_ _)); exact BR.out) hb)
     have n2_ := zA (blk_below (g := gv) (o := .cells #[.int .i64 a, .int .i64 b, .int .i64 0, .slice none 0 0] 26 (0, 0)) (by (with_reducible repeat (first | refine blk_drewN ?_ _ | refine blk_drew ?_ | refine blk_alloc ?_ _)); exact BV.out) hb)
     have n3_ := zA (Kd.R_below (d := Kd.string) (e := 9) (base := w.heap.size) (ok := fun _ => True) (zR HO.out) hb)
     clear HB BR BV HO
     have HB := n0_
     have BR := n1_
     have BV := n2_
     have HO := n3_
     clear n0_ n1_ n2_ n3_ hb
     have hnb := NE.out
     have hnc := NE.out.symm
     have cv0 : w5.cell? ⟨gv, 2, none⟩ = some (.int .i64 0) := (blk_cell BV.out 2).trans rfl
     have fv0 := blk_frozen BV.out 2
     have cr0 : w5.cell? ⟨gr, 0, none⟩ = some (.int .i64 0) := (blk_cell BR.out 0).trans rfl
     have cr1 : w5.cell? ⟨gr, 1, none⟩ = some (.int .i64 0) := (blk_cell BR.out 1).trans rfl
     have cr2 : w5.cell? ⟨gr, 2, none⟩ = some (.int .i64 0) := (blk_cell BR.out 2).trans rfl
     have cr3 : w5.cell? ⟨gr, 3, none⟩ = some (.slice none 0 0) := (blk_cell BR.out 3).trans rfl
     have fr0 := blk_frozen BR.out 0
     have fr1 := blk_frozen BR.out 1
     have fr2 := blk_frozen BR.out 2
     have fr3 := blk_frozen BR.out 3
     go_wp2
     go_roundg 0
     case measure => omega
     case rel => exact ⟨0, a, b, n, by omega, by omega, by first | rfl | go_num, by first | omega | (intro _; omega), by first | omega | (intro _; first | rfl | omega), by first | omega | (intro _; first | rfl | omega), RST, ⟨zW HB.out⟩,
      ⟨by (with_reducible repeat (first | refine blk_drewN ?_ _ | refine blk_drew ?_ | refine blk_alloc ?_ _)); refine blk_far ?_ NE.out _; (with_reducible repeat (first | refine blk_drewN ?_ _ | refine blk_drew ?_ | refine blk_alloc ?_ _)); exact BR.out⟩, ⟨by (with_reducible repeat (first | refine blk_drewN ?_ _ | refine blk_drew ?_ | refine blk_alloc ?_ _)); refine blk_put (cs := #[.int .i64 a, .int .i64 b, .int .i64 0, .slice none 0 0]) ?_ 2 _ rfl; (with_reducible repeat (first | refine blk_drewN ?_ _ | refine blk_drew ?_ | refine blk_alloc ?_ _)); exact BV.out⟩, ⟨Kd.R_set (zR HO.out) BV.out (by decide) _ _⟩⟩
   ·
    obtain rfl := hb0 (by omega); obtain rfl := hc0 (by omega)
    obtain ⟨pb, po, e_, hcell⟩ := Lb.C_string_plain (Kd.R_reads' HO.out).2.2 (by have := LEN.out; omega)
    cases e_
    have hx : wr.cell? ⟨pb, po + 1, none⟩ = some (.string (rdOf ByteArray.empty ps 1)) := hcell 1 _ (by
     unfold rdOf
     rw [List.getD_eq_getElem?_getD, show (1 : Int).toNat = 1 from rfl, List.getElem?_eq_getElem (show 1 < ps.length by have := LEN.out; omega)]
     rfl)
    clear hcell
    have hidx : ∀ W : World, (Instr.index 86 (.agg #[.pointer (some ⟨gv, 0, none⟩), .pointer (some ⟨gv, 1, none⟩), .pointer (some ⟨gv, 2, none⟩)]) (.int .i64 1)).run Tryd.prog W = .ok (.pointer (some ⟨gv, 1, none⟩)) W := fun W => by kernel_rfl
    have hl : (1 : Int) < (ps.length : Int) := by have := LEN.out; omega
    have H := REST.out
    clear REST
    replace H := Option.bind_eq_some_iff.mp H
    obtain ⟨⟨n, ok⟩, hpn, H⟩ := H
    have PN := Aside0.mk hpn
    clear hpn
    cases ok with
    | false =>
     replace H : some impl_ParseVer.no = some (r1, r2, r3, r4, r5) := H
     simp only [impl_ParseVer.no, Option.some.injEq, Prod.mk.injEq] at H
     obtain ⟨rfl, rfl, rfl, rfl, rfl⟩ := H
     go_wp2_with (fail)
     (with_reducible refine (impl_ParseNum.calls k (rdOf ByteArray.empty ps 1) 9999 n false _ ?hgw PN.out).mono ?_)
     (case hgw => exact GW.below HG.out (zB))
     rintro e w5 ⟨rfl, hb⟩
     have n0_ := zA (below_step (zB) hb)
     have n1_ := zA (blk_below (g := gr) (o := .cells #[.int .i64 0, .int .i64 0, .int .i64 0, .slice none 0 0] 26 (0, 0)) (by (with_reducible repeat (first | refine blk_drewN ?_ _ | refine blk_drew ?_ | refine blk_alloc ?_ _)); exact BR.out) hb)
     have n2_ := zA (blk_below (g := gv) (o := .cells #[.int .i64 a, .int .i64 0, .int .i64 0, .slice none 0 0] 26 (0, 0)) (by (with_reducible repeat (first | refine blk_drewN ?_ _ | refine blk_drew ?_ | refine blk_alloc ?_ _)); exact BV.out) hb)
     have n3_ := zA (Kd.R_below (d := Kd.string) (e := 9) (base := w.heap.size) (ok := fun _ => True) (zR HO.out) hb)
     clear HB BR BV HO
     have HB := n0_
     have BR := n1_
     have BV := n2_
     have HO := n3_
     clear n0_ n1_ n2_ n3_ hb
     have hnb := NE.out
     have hnc := NE.out.symm
     have cv0 : w5.cell? ⟨gv, 1, none⟩ = some (.int .i64 0) := (blk_cell BV.out 1).trans rfl
     have fv0 := blk_frozen BV.out 1
     have cr0 : w5.cell? ⟨gr, 0, none⟩ = some (.int .i64 0) := (blk_cell BR.out 0).trans rfl
     have cr1 : w5.cell? ⟨gr, 1, none⟩ = some (.int .i64 0) := (blk_cell BR.out 1).trans rfl
     have cr2 : w5.cell? ⟨gr, 2, none⟩ = some (.int .i64 0) := (blk_cell BR.out 2).trans rfl
     have cr3 : w5.cell? ⟨gr, 3, none⟩ = some (.slice none 0 0) := (blk_cell BR.out 3).trans rfl
     have fr0 := blk_frozen BR.out 0
     have fr1 := blk_frozen BR.out 1
     have fr2 := blk_frozen BR.out 2
     have fr3 := blk_frozen BR.out 3
     go_wp2
     refine bodyPost_ret (results_ct rfl _ _ gr 26 #[.int .i64 0, .int .i64 0, .int .i64 0, .slice none 0 0] (0, 0) _ rfl (by (with_reducible repeat (first | refine blk_drewN ?_ _ | refine blk_drew ?_ | refine blk_alloc ?_ _)); refine blk_put (cs := #[.int .i64 0, .int .i64 0, .int .i64 0, .slice none 0 0]) ?_ 3 _ rfl; (with_reducible repeat (first | refine blk_drewN ?_ _ | refine blk_drew ?_ | refine blk_alloc ?_ _)); refine blk_put (cs := #[.int .i64 0, .int .i64 0, .int .i64 0, .slice none 0 0]) ?_ 2 _ rfl; (with_reducible repeat (first | refine blk_drewN ?_ _ | refine blk_drew ?_ | refine blk_alloc ?_ _)); refine blk_put (cs := #[.int .i64 0, .int .i64 0, .int .i64 0, .slice none 0 0]) ?_ 1 _ rfl; (with_reducible repeat (first | refine blk_drewN ?_ _ | refine blk_drew ?_ | refine blk_alloc ?_ _)); refine blk_put (cs := #[.int .i64 0, .int .i64 0, .int .i64 0, .slice none 0 0]) ?_ 0 _ rfl; (with_reducible repeat (first | refine blk_drewN ?_ _ | refine blk_drew ?_ | refine blk_alloc ?_ _)); exact BR.out) Tryd.underlying26 rfl (by kernel_rfl)) rfl ?_
     exact ⟨_, rfl, Kd.R_nil _ _ _ _ _, zW HB.out⟩
    | true =>
     have RST := Aside0.mk H
     clear H
     go_wp2_with (fail)
     (with_reducible refine (impl_ParseNum.calls k (rdOf ByteArray.empty ps 1) 9999 n true _ ?hgw PN.out).mono ?_)
     (case hgw => exact GW.below HG.out (zB))
     rintro e w5 ⟨rfl, hb⟩
     have n0_ := zA (below_step (zB) hb)
     have n1_ := zA (blk_below (g := gr) (o := .cells #[.int .i64 0, .int .i64 0, .int .i64 0, .slice none 0 0] 26 (0, 0)) (by (with_reducible repeat (first | refine blk_drewN ?_ _ | refine blk_drew ?_ | refine blk_alloc ?_ _)); exact BR.out) hb)
     have n2_ := zA (blk_below (g := gv) (o := .cells #[.int .i64 a, .int .i64 0, .int .i64 0, .slice none 0 0] 26 (0, 0)) (by (with_reducible repeat (first | refine blk_drewN ?_ _ | refine blk_drew ?_ | refine blk_alloc ?_ _)); exact BV.out) hb)
     have n3_ := zA (Kd.R_below (d := Kd.string) (e := 9) (base := w.heap.size) (ok := fun _ => True) (zR HO.out) hb)
     clear HB BR BV HO
     have HB := n0_
     have BR := n1_
     have BV := n2_
     have HO := n3_
     clear n0_ n1_ n2_ n3_ hb
     have hnb := NE.out
     have hnc := NE.out.symm
     have cv0 : w5.cell? ⟨gv, 1, none⟩ = some (.int .i64 0) := (blk_cell BV.out 1).trans rfl
     have fv0 := blk_frozen BV.out 1
     have cr0 : w5.cell? ⟨gr, 0, none⟩ = some (.int .i64 0) := (blk_cell BR.out 0).trans rfl
     have cr1 : w5.cell? ⟨gr, 1, none⟩ = some (.int .i64 0) := (blk_cell BR.out 1).trans rfl
     have cr2 : w5.cell? ⟨gr, 2, none⟩ = some (.int .i64 0) := (blk_cell BR.out 2).trans rfl
     have cr3 : w5.cell? ⟨gr, 3, none⟩ = some (.slice none 0 0) := (blk_cell BR.out 3).trans rfl
     have fr0 := blk_frozen BR.out 0
     have fr1 := blk_frozen BR.out 1
     have fr2 := blk_frozen BR.out 2
     have fr3 := blk_frozen BR.out 3
     go_wp2
     go_roundg 1
     case measure => omega
     case rel => exact ⟨1, a, n, 0, by omega, by omega, by first | rfl | go_num, by first | omega | (intro _; omega), by first | omega | (intro _; first | rfl | omega), by first | omega | (intro _; first | rfl | omega), RST, ⟨zW HB.out⟩,
      ⟨by (with_reducible repeat (first | refine blk_drewN ?_ _ | refine blk_drew ?_ | refine blk_alloc ?_ _)); refine blk_far ?_ NE.out _; (with_reducible repeat (first | refine blk_drewN ?_ _ | refine blk_drew ?_ | refine blk_alloc ?_ _)); exact BR.out⟩, ⟨by (with_reducible repeat (first | refine blk_drewN ?_ _ | refine blk_drew ?_ | refine blk_alloc ?_ _)); refine blk_put (cs := #[.int .i64 a, .int .i64 0, .int .i64 0, .slice none 0 0]) ?_ 1 _ rfl; (with_reducible repeat (first | refine blk_drewN ?_ _ | refine blk_drew ?_ | refine blk_alloc ?_ _)); exact BV.out⟩, ⟨Kd.R_set (zR HO.out) BV.out (by decide) _ _⟩⟩
   ·obtain rfl : m = 0 := by omega
    obtain rfl := ha rfl; obtain rfl := hb0 (by omega); obtain rfl := hc0 (by omega)
    obtain ⟨pb, po, e_, hcell⟩ := Lb.C_string_plain (Kd.R_reads' HO.out).2.2 (by have := LEN.out; omega)
    cases e_
    have hx : wr.cell? ⟨pb, po, none⟩ = some (.string (rdOf ByteArray.empty ps 0)) := hcell 0 _ (by
     unfold rdOf
     rw [List.getD_eq_getElem?_getD, show (0 : Int).toNat = 0 from rfl, List.getElem?_eq_getElem (show 0 < ps.length by have := LEN.out; omega)]
     rfl)
    clear hcell
    have hidx : ∀ W : World, (Instr.index 86 (.agg #[.pointer (some ⟨gv, 0, none⟩), .pointer (some ⟨gv, 1, none⟩), .pointer (some ⟨gv, 2, none⟩)]) (.int .i64 0)).run Tryd.prog W = .ok (.pointer (some ⟨gv, 0, none⟩)) W := fun W => by kernel_rfl
    have hl : (0 : Int) < (ps.length : Int) := by have := LEN.out; omega
    have H := REST.out
    clear REST
    replace H := Option.bind_eq_some_iff.mp H
    obtain ⟨⟨n, ok⟩, hpn, H⟩ := H
    have PN := Aside0.mk hpn
    clear hpn
    cases ok with
    | false =>
     replace H : some impl_ParseVer.no = some (r1, r2, r3, r4, r5) := H
     simp only [impl_ParseVer.no, Option.some.injEq, Prod.mk.injEq] at H
     obtain ⟨rfl, rfl, rfl, rfl, rfl⟩ := H
     go_wp2_with (fail)
     (with_reducible refine (impl_ParseNum.calls k (rdOf ByteArray.empty ps 0) 9999 n false _ ?hgw PN.out).mono ?_)
     (case hgw => exact GW.below HG.out (zB))
     rintro e w5 ⟨rfl, hb⟩
     have n0_ := zA (below_step (zB) hb)
     have n1_ := zA (blk_below (g := gr) (o := .cells #[.int .i64 0, .int .i64 0, .int .i64 0, .slice none 0 0] 26 (0, 0)) (by (with_reducible repeat (first | refine blk_drewN ?_ _ | refine blk_drew ?_ | refine blk_alloc ?_ _)); exact BR.out) hb)
     have n2_ := zA (blk_below (g := gv) (o := .cells #[.int .i64 0, .int .i64 0, .int .i64 0, .slice none 0 0] 26 (0, 0)) (by (with_reducible repeat (first | refine blk_drewN ?_ _ | refine blk_drew ?_ | refine blk_alloc ?_ _)); exact BV.out) hb)
     have n3_ := zA (Kd.R_below (d := Kd.string) (e := 9) (base := w.heap.size) (ok := fun _ => True) (zR HO.out) hb)
     clear HB BR BV HO
     have HB := n0_
     have BR := n1_
     have BV := n2_
     have HO := n3_
     clear n0_ n1_ n2_ n3_ hb
     have hnb := NE.out
     have hnc := NE.out.symm
     have cv0 : w5.cell? ⟨gv, 0, none⟩ = some (.int .i64 0) := (blk_cell BV.out 0).trans rfl
     have fv0 := blk_frozen BV.out 0
     have cr0 : w5.cell? ⟨gr, 0, none⟩ = some (.int .i64 0) := (blk_cell BR.out 0).trans rfl
     have cr1 : w5.cell? ⟨gr, 1, none⟩ = some (.int .i64 0) := (blk_cell BR.out 1).trans rfl
     have cr2 : w5.cell? ⟨gr, 2, none⟩ = some (.int .i64 0) := (blk_cell BR.out 2).trans rfl
     have cr3 : w5.cell? ⟨gr, 3, none⟩ = some (.slice none 0 0) := (blk_cell BR.out 3).trans rfl
     have fr0 := blk_frozen BR.out 0
     have fr1 := blk_frozen BR.out 1
     have fr2 := blk_frozen BR.out 2
     have fr3 := blk_frozen BR.out 3
     go_wp2
     refine bodyPost_ret (results_ct rfl _ _ gr 26 #[.int .i64 0, .int .i64 0, .int .i64 0, .slice none 0 0] (0, 0) _ rfl (by (with_reducible repeat (first | refine blk_drewN ?_ _ | refine blk_drew ?_ | refine blk_alloc ?_ _)); refine blk_put (cs := #[.int .i64 0, .int .i64 0, .int .i64 0, .slice none 0 0]) ?_ 3 _ rfl; (with_reducible repeat (first | refine blk_drewN ?_ _ | refine blk_drew ?_ | refine blk_alloc ?_ _)); refine blk_put (cs := #[.int .i64 0, .int .i64 0, .int .i64 0, .slice none 0 0]) ?_ 2 _ rfl; (with_reducible repeat (first | refine blk_drewN ?_ _ | refine blk_drew ?_ | refine blk_alloc ?_ _)); refine blk_put (cs := #[.int .i64 0, .int .i64 0, .int .i64 0, .slice none 0 0]) ?_ 1 _ rfl; (with_reducible repeat (first | refine blk_drewN ?_ _ | refine blk_drew ?_ | refine blk_alloc ?_ _)); refine blk_put (cs := #[.int .i64 0, .int .i64 0, .int .i64 0, .slice none 0 0]) ?_ 0 _ rfl; (with_reducible repeat (first | refine blk_drewN ?_ _ | refine blk_drew ?_ | refine blk_alloc ?_ _)); exact BR.out) Tryd.underlying26 rfl (by kernel_rfl)) rfl ?_
     exact ⟨_, rfl, Kd.R_nil _ _ _ _ _, zW HB.out⟩
    | true =>
     have RST := Aside0.mk H
     clear H
     go_wp2_with (fail)
     (with_reducible refine (impl_ParseNum.calls k (rdOf ByteArray.empty ps 0) 9999 n true _ ?hgw PN.out).mono ?_)
     (case hgw => exact GW.below HG.out (zB))
     rintro e w5 ⟨rfl, hb⟩
     have n0_ := zA (below_step (zB) hb)
     have n1_ := zA (blk_below (g := gr) (o := .cells #[.int .i64 0, .int .i64 0, .int .i64 0, .slice none 0 0] 26 (0, 0)) (by (with_reducible repeat (first | refine blk_drewN ?_ _ | refine blk_drew ?_ | refine blk_alloc ?_ _)); exact BR.out) hb)
     have n2_ := zA (blk_below (g := gv) (o := .cells #[.int .i64 0, .int .i64 0, .int .i64 0, .slice none 0 0] 26 (0, 0)) (by (with_reducible repeat (first | refine blk_drewN ?_ _ | refine blk_drew ?_ | refine blk_alloc ?_ _)); exact BV.out) hb)
     have n3_ := zA (Kd.R_below (d := Kd.string) (e := 9) (base := w.heap.size) (ok := fun _ => True) (zR HO.out) hb)
     clear HB BR BV HO
     have HB := n0_
     have BR := n1_
     have BV := n2_
     have HO := n3_
     clear n0_ n1_ n2_ n3_ hb
     have hnb := NE.out
     have hnc := NE.out.symm
     have cv0 : w5.cell? ⟨gv, 0, none⟩ = some (.int .i64 0) := (blk_cell BV.out 0).trans rfl
     have fv0 := blk_frozen BV.out 0
     have cr0 : w5.cell? ⟨gr, 0, none⟩ = some (.int .i64 0) := (blk_cell BR.out 0).trans rfl
     have cr1 : w5.cell? ⟨gr, 1, none⟩ = some (.int .i64 0) := (blk_cell BR.out 1).trans rfl
     have cr2 : w5.cell? ⟨gr, 2, none⟩ = some (.int .i64 0) := (blk_cell BR.out 2).trans rfl
     have cr3 : w5.cell? ⟨gr, 3, none⟩ = some (.slice none 0 0) := (blk_cell BR.out 3).trans rfl
     have fr0 := blk_frozen BR.out 0
     have fr1 := blk_frozen BR.out 1
     have fr2 := blk_frozen BR.out 2
     have fr3 := blk_frozen BR.out 3
     go_wp2
     go_roundg 2
     case measure => omega
     case rel => exact ⟨2, n, 0, 0, by omega, by omega, by first | rfl | go_num, by first | omega | (intro _; omega), by first | omega | (intro _; first | rfl | omega), by first | omega | (intro _; first | rfl | omega), RST, ⟨zW HB.out⟩,
      ⟨by (with_reducible repeat (first | refine blk_drewN ?_ _ | refine blk_drew ?_ | refine blk_alloc ?_ _)); refine blk_far ?_ NE.out _; (with_reducible repeat (first | refine blk_drewN ?_ _ | refine blk_drew ?_ | refine blk_alloc ?_ _)); exact BR.out⟩, ⟨by (with_reducible repeat (first | refine blk_drewN ?_ _ | refine blk_drew ?_ | refine blk_alloc ?_ _)); refine blk_put (cs := #[.int .i64 0, .int .i64 0, .int .i64 0, .slice none 0 0]) ?_ 0 _ rfl; (with_reducible repeat (first | refine blk_drewN ?_ _ | refine blk_drew ?_ | refine blk_alloc ?_ _)); exact BV.out⟩, ⟨Kd.R_set (zR HO.out) BV.out (by decide) _ _⟩⟩
 ·rw [if_neg hlen] at h
  simp only [impl_ParseVer.no, Option.some.injEq, Prod.mk.injEq] at h
  obtain ⟨rfl, rfl, rfl, rfl, rfl⟩ := h
  have hl3 : ((ps.length : Int) == 3) = false := by simpa using fun e => hlen (by omega)
  have hl3' : ((ps.length : Int) != 3) = true := by simpa using fun e => hlen (by omega)
  clear hlen
  go_enter Tryd.func24, Tryd.ntmps24
  go_wp2_with (first
   | ((with_reducible refine gate_dst (N := 2) rfl ?_); refine box_event ?hg (N := 2) ?hd (cs := #[.int .i64 0, .int .i64 0, .int .i64 0, .slice none 0 0]) (t := 26) ?hr ?_; (case hd => rfl); (case hg => rfl); (case hr => first | (go_simp; done) | (go_simp; rfl)); intro gr hg w1 hbox hb; have n0_ := zA (below_step HB.out hb); have BR := Aside0.mk hbox; have GR := zA ((by rw [hg]; exact Nat.le_refl _) : w.heap.size ≤ gr); clear HB; have HB := n0_; clear n0_; clear hb hbox hg)
   | (go_at_call 48; (with_reducible refine (strings_Cut.calls a0 (⟨#[45]⟩ : ByteArray) num pre has _ ?hgw CUT.out).mono ?_); (case hgw => exact GW.below HG.out HB.out); rintro e w2 ⟨rfl, hb⟩; have n0_ := zA (below_step HB.out hb); have n1_ := zA (blk_below BR.out hb); clear HB BR; have HB := n0_; have BR := n1_; clear n0_ n1_ hb)
   | (go_at_call 12; (with_reducible refine (strings_Split.calls num (⟨#[46]⟩ : ByteArray) ps _ ?hgw SPL.out).mono ?_); (case hgw => exact GW.below HG.out HB.out); rintro e w3 ⟨v3, rfl, ho, hb⟩; have n0_ := zA (below_step HB.out hb); have n1_ := zA (blk_below BR.out hb); have HO := zA (Kd.R_lower ho (below_size HB.out)); clear HB BR; have HB := n0_; have BR := n1_; clear n0_ n1_ hb ho; obtain ⟨Ao, co, eo⟩ := Kd.R_slice HO.out; subst eo; have hnb_ := trivial; have rc0 : w3.cell? ⟨gr, 0, none⟩ = some (.int .i64 0) := (blk_cell BR.out 0).trans rfl; have rf0 := blk_frozen BR.out 0; have rc1 : w3.cell? ⟨gr, 1, none⟩ = some (.int .i64 0) := (blk_cell BR.out 1).trans rfl; have rf1 := blk_frozen BR.out 1; have rc2 : w3.cell? ⟨gr, 2, none⟩ = some (.int .i64 0) := (blk_cell BR.out 2).trans rfl; have rf2 := blk_frozen BR.out 2; have rc3 : w3.cell? ⟨gr, 3, none⟩ = some (.slice none 0 0) := (blk_cell BR.out 3).trans rfl; have rf3 := blk_frozen BR.out 3))
  refine bodyPost_ret (results_ct rfl _ _ gr 26 #[.int .i64 0, .int .i64 0, .int .i64 0, .slice none 0 0] (0, 0) _ rfl (by (with_reducible repeat (first | refine blk_drewN ?_ _ | refine blk_drew ?_ | refine blk_alloc ?_ _)); refine blk_put (cs := #[.int .i64 0, .int .i64 0, .int .i64 0, .slice none 0 0]) ?_ 3 _ rfl; (with_reducible repeat (first | refine blk_drewN ?_ _ | refine blk_drew ?_ | refine blk_alloc ?_ _)); refine blk_put (cs := #[.int .i64 0, .int .i64 0, .int .i64 0, .slice none 0 0]) ?_ 2 _ rfl; (with_reducible repeat (first | refine blk_drewN ?_ _ | refine blk_drew ?_ | refine blk_alloc ?_ _)); refine blk_put (cs := #[.int .i64 0, .int .i64 0, .int .i64 0, .slice none 0 0]) ?_ 1 _ rfl; (with_reducible repeat (first | refine blk_drewN ?_ _ | refine blk_drew ?_ | refine blk_alloc ?_ _)); refine blk_put (cs := #[.int .i64 0, .int .i64 0, .int .i64 0, .slice none 0 0]) ?_ 0 _ rfl; (with_reducible repeat (first | refine blk_drewN ?_ _ | refine blk_drew ?_ | refine blk_alloc ?_ _)); exact BR.out) Tryd.underlying26 rfl (by kernel_rfl)) rfl ?_
  exact ⟨_, rfl, Kd.R_nil _ _ _ _ _, zW HB.out⟩
/-! ### strings_CutPrefix: function 50 -/
def strings_CutPrefix.f (a0 a1 : ByteArray) : Option (ByteArray × Bool) := some (⟨(Lib.trimPrefix a0.data.toList a1.data.toList).toArray⟩, Lib.hasPrefix a0.data.toList a1.data.toList)
theorem strings_CutPrefix.calls (a0 a1 : ByteArray) (r1 : ByteArray) (r2 : Bool) (w : World) (h : strings_CutPrefix.f a0 a1 = some (r1, r2)) :
  Calls Tryd.prog 50 #[.string a0, .string a1] w fun e w' => e = .returned (.tuple #[.string r1, .bool r2]) ∧ Drawn0 w w' := by
 obtain ⟨rfl, rfl⟩ := Prod.mk.inj (Option.some.inj h)
 refine (Tryd.strings_CutPrefix a0 a1 w).mono ?_
 rintro e w' ⟨rfl, rfl⟩
 exact ⟨rfl, Drawn0.refl _⟩
end Go.Proofs.YtpcdhoeoefoeoaaDoor.PGA
