/- The walks of the functions that these laws reach, and what each comes to: printed by this session's program. -/
import Derived.Deep.CutBlock
import Derived.Test.YtpcdhoeoefoeoaaDoorZGAPGAx0
import Derived.Test.YtpcdhoeoefoeoaaDoorZGAPGAx3
import Derived.Test.YtpcdhoeoefoeoaaDoorZGAPGAx5
import Derived.Test.YtpcdhoeoefoeoaaDoorZGASays
namespace Go.Proofs.YtpcdhoeoefoeoaaDoor.PGA
open Go.RowKit Go.Proofs.YtpcdhoeoefoeoaaDoorW.PrintWords Go.Proofs.YtpcdhoeoefoeoaaDoorW.PrintLast Go.Proofs.YtpcdhoeoefoeoaaDoorW.PrintMore
attribute [local go_sem high] Go.Proofs.YtpcdhoeoefoeoaaDoor.Mine.str_gtr Go.Proofs.YtpcdhoeoefoeoaaDoor.Mine.str_leq Go.Proofs.YtpcdhoeoefoeoaaDoor.Mine.str_geq
attribute [local go_sem] max2_int min2_int max_two min_two max_three min_three max_four min_four   -- for this text's walks alone
set_option linter.unusedVariables false
set_option maxHeartbeats 8000000
set_option maxRecDepth 100000
set_option linter.unusedSimpArgs false
/-! ### impl_partOf: function 51 -/
def impl_partOf.no : Int × Int × Int × List ByteArray × Int × Bool := (0, 0, 0, [], 0, false)
/-- So many pieces are left where the signs 'x' at the end fall away. -/
def impl_partOf.back (ps : List ByteArray) : Nat → Nat
 | 0 => 0
 | 1 => 1
 | t + 2 => if (rdOf ByteArray.empty ps ((t + 1 : Nat) : Int)).toList = ([120] : List UInt8) then impl_partOf.back ps (t + 1) else t + 2
/-- The last d of t pieces are still to be read; what is read so far. -/
def impl_partOf.rest (k : Nat) (ps : List ByteArray) (t : Nat) : Nat → Int → Int → Option (Int × Int × Int × List ByteArray × Int × Bool)
 | 0, x, y => some (x, y, 0, [], (t : Int), true)
 | d + 1, x, y => (impl_ParseNum.f k (rdOf ByteArray.empty ps ((t - (d + 1) : Nat) : Int)) 9999).bind fun n => if n.2 = true then (if t - (d + 1) = 0 then impl_partOf.rest k ps t d n.1 y else impl_partOf.rest k ps t d x n.1) else some impl_partOf.no
def impl_partOf.nums (k : Nat) (ps : List ByteArray) (t : Nat) : Option (Int × Int × Int × List ByteArray × Int × Bool) := if t ≤ 2 then impl_partOf.rest k ps t t 0 0 else some impl_partOf.no
def impl_partOf.f (k : Nat) (a0 : ByteArray) : Option (Int × Int × Int × List ByteArray × Int × Bool) :=
 (impl_ParseVer.f k a0).bind fun v => if v.2.2.2.2 = true then some (v.1, v.2.1, v.2.2.1, v.2.2.2.1, 3, true)
  else (strings_Split.f a0 (⟨#[46]⟩ : ByteArray)).bind fun ps => if ps.length = 0 then none else if 3 < ps.length then some impl_partOf.no else impl_partOf.nums k ps (impl_partOf.back ps ps.length)
theorem impl_partOf.back_le (ps : List ByteArray) : ∀ t, impl_partOf.back ps t ≤ t
 | 0 => Nat.le_refl _
 | 1 => Nat.le_refl _
 | t + 2 => by
  unfold impl_partOf.back
  split
  ·have := impl_partOf.back_le ps (t + 1)
   omega
  ·omega
theorem impl_partOf.calls (k : Nat) (a0 : ByteArray) (r1 : Int) (r2 : Int) (r3 : Int) (r4 : List ByteArray) (r5 : Int) (r6 : Bool) (w : World) (hG : GW w) (h : impl_partOf.f k a0 = some (r1, r2, r3, r4, r5, r6)) :
  Calls Tryd.prog 51 #[.string a0] w fun e w' => ∃ v3_ : Value, e = .returned (.tuple #[.agg #[.int .i64 r1, .int .i64 r2, .int .i64 r3, v3_], .int .i64 r5, .bool r6]) ∧ Kd.R Kd.string 9 w' w.heap.size (fun _ => True) v3_ r4 ∧ Below w.heap.size w w' := by
 have hu_ := Tryd.underlying26
 have HG := Aside0.mk hG
 have HB := zA (Below.refl w.heap.size w)
 clear hG
 unfold impl_partOf.f at h
 replace h := Option.bind_eq_some_iff.mp h
 obtain ⟨t, hpv, h⟩ := h
 obtain ⟨va, vb, vc, vl, vok⟩ := t
 have PV := Aside0.mk hpv
 clear hpv
 cases vok with
 | true =>
  replace h : some (va, vb, vc, vl, (3 : Int), true) = some (r1, r2, r3, r4, r5, r6) := h
  simp only [Option.some.injEq, Prod.mk.injEq] at h
  obtain ⟨rfl, rfl, rfl, rfl, rfl, rfl⟩ := h
  go_enter Tryd.func51, Tryd.ntmps51
  go_wp2_with (first
   | ((with_reducible refine zd 2 ?_); refine ze 2 26 #[.int .i64 0, .int .i64 0, .int .i64 0, .slice none 0 0] ?_; intro gr hg w1 hbox hb; have n0_ := zA (below_step (zW HB.out) hb); have BR := Aside0.mk hbox; have GR := zA ((by rw [hg]; exact below_size (zW HB.out)) : w.heap.size ≤ gr); clear HB; have HB := n0_; clear n0_ hb hbox hg)
   | (go_at_call 24; (with_reducible refine (impl_ParseVer.calls k a0 va vb vc vl _ _ ?hgw PV.out).mono ?_); (case hgw => exact GW.below HG.out (zW HB.out)); rintro e w2 ⟨v2, rfl, ho, hb⟩; have n0_ := zA (below_step (zW HB.out) hb); have n1_ := zA (blk_below (g := gr) (o := .cells #[.int .i64 0, .int .i64 0, .int .i64 0, .slice none 0 0] 26 (0, 0)) (by (with_reducible repeat (first | refine blk_drewN ?_ _ | refine blk_drew ?_ | refine blk_alloc ?_ _ | refine blk_far ?_ NE.out _ | refine blk_far ?_ NN.out _)); exact BR.out) hb); have HP := zA (Kd.R_lower ho (below_size (zW HB.out))); clear HB BR; have HB := n0_; have BR := n1_; clear n0_ n1_ hb ho; obtain ⟨Ao, co, eo⟩ := Kd.R_slice HP.out; subst eo; have rc0 : w2.cell? ⟨gr, 0, none⟩ = some (Value.int .i64 0) := (blk_cell BR.out 0).trans rfl; have rf0 := blk_frozen BR.out 0; have rc1 : w2.cell? ⟨gr, 1, none⟩ = some (Value.int .i64 0) := (blk_cell BR.out 1).trans rfl; have rf1 := blk_frozen BR.out 1; have rc2 : w2.cell? ⟨gr, 2, none⟩ = some (Value.int .i64 0) := (blk_cell BR.out 2).trans rfl; have rf2 := blk_frozen BR.out 2; have rc3 : w2.cell? ⟨gr, 3, none⟩ = some (Value.slice none 0 0) := (blk_cell BR.out 3).trans rfl; have rf3 := blk_frozen BR.out 3)
   | ((with_reducible refine zd 5 ?_); refine ze 5 26 #[.int .i64 0, .int .i64 0, .int .i64 0, .slice none 0 0] ?_; intro gv hg w4 hbox hb; have n0_ := zA (below_step (zW HB.out) hb); have n1_ := zA (blk_below (g := gr) (o := .cells #[.int .i64 0, .int .i64 0, .int .i64 0, .slice none 0 0] 26 (0, 0)) (by (with_reducible repeat (first | refine blk_drewN ?_ _ | refine blk_drew ?_ | refine blk_alloc ?_ _ | refine blk_far ?_ NE.out _ | refine blk_far ?_ NN.out _)); exact BR.out) hb); have n2_ := zA (Kd.R_types (Kd.R_below (zR HP.out) hb) hbox (by decide)); have BV := Aside0.mk hbox; have GV := zA ((by rw [hg]; exact below_size (zW HB.out)) : w.heap.size ≤ gv); have NE := zA ((by rw [hg]; exact Nat.ne_of_lt (blk_lt (by (with_reducible repeat (first | refine blk_drewN ?_ _ | refine blk_drew ?_ | refine blk_alloc ?_ _ | refine blk_far ?_ NE.out _ | refine blk_far ?_ NN.out _)); exact BR.out))) : gr ≠ gv); clear HB HP BR rc0 rc1 rc2 rc3 rf0 rf1 rf2 rf3; have HB := n0_; have HP := n2_; have BR := n1_; clear n0_ n2_ n1_ hb hbox hg; have hnv := trivial; have hne1 := NE.out; have hne2 := NE.out.symm; have rc0 : w4.cell? ⟨gr, 0, none⟩ = some (Value.int .i64 0) := (blk_cell BR.out 0).trans rfl; have rf0 := blk_frozen BR.out 0; have rc1 : w4.cell? ⟨gr, 1, none⟩ = some (Value.int .i64 0) := (blk_cell BR.out 1).trans rfl; have rf1 := blk_frozen BR.out 1; have rc2 : w4.cell? ⟨gr, 2, none⟩ = some (Value.int .i64 0) := (blk_cell BR.out 2).trans rfl; have rf2 := blk_frozen BR.out 2; have rc3 : w4.cell? ⟨gr, 3, none⟩ = some (Value.slice none 0 0) := (blk_cell BR.out 3).trans rfl; have rf3 := blk_frozen BR.out 3; have vc0 : w4.cell? ⟨gv, 0, none⟩ = some (Value.int .i64 0) := (blk_cell BV.out 0).trans rfl; have vf0 := blk_frozen BV.out 0; have vc1 : w4.cell? ⟨gv, 1, none⟩ = some (Value.int .i64 0) := (blk_cell BV.out 1).trans rfl; have vf1 := blk_frozen BV.out 1; have vc2 : w4.cell? ⟨gv, 2, none⟩ = some (Value.int .i64 0) := (blk_cell BV.out 2).trans rfl; have vf2 := blk_frozen BV.out 2; have vc3 : w4.cell? ⟨gv, 3, none⟩ = some (Value.slice none 0 0) := (blk_cell BV.out 3).trans rfl; have vf3 := blk_frozen BV.out 3))
  refine bodyPost_ret (results_ctt rfl _ _ gr 26 #[.int .i64 va, .int .i64 vb, .int .i64 vc, .slice Ao vl.length co] (0, 0) _ rfl (by (with_reducible repeat (first | refine blk_drewN ?_ _ | refine blk_drew ?_ | refine blk_alloc ?_ _ | refine blk_far ?_ NE.out _ | refine blk_far ?_ NN.out _)); refine blk_put (cs := #[.int .i64 va, .int .i64 vb, .int .i64 vc, .slice none 0 0]) ?_ 3 _ rfl; (with_reducible repeat (first | refine blk_drewN ?_ _ | refine blk_drew ?_ | refine blk_alloc ?_ _ | refine blk_far ?_ NE.out _ | refine blk_far ?_ NN.out _)); refine blk_put (cs := #[.int .i64 va, .int .i64 vb, .int .i64 0, .slice none 0 0]) ?_ 2 _ rfl; (with_reducible repeat (first | refine blk_drewN ?_ _ | refine blk_drew ?_ | refine blk_alloc ?_ _ | refine blk_far ?_ NE.out _ | refine blk_far ?_ NN.out _)); refine blk_put (cs := #[.int .i64 va, .int .i64 0, .int .i64 0, .slice none 0 0]) ?_ 1 _ rfl; (with_reducible repeat (first | refine blk_drewN ?_ _ | refine blk_drew ?_ | refine blk_alloc ?_ _ | refine blk_far ?_ NE.out _ | refine blk_far ?_ NN.out _)); refine blk_put (cs := #[.int .i64 0, .int .i64 0, .int .i64 0, .slice none 0 0]) ?_ 0 _ rfl; (with_reducible repeat (first | refine blk_drewN ?_ _ | refine blk_drew ?_ | refine blk_alloc ?_ _ | refine blk_far ?_ NE.out _ | refine blk_far ?_ NN.out _)); exact BR.out) Tryd.underlying26 rfl (by kernel_rfl)) rfl ?_
  exact ⟨_, rfl, by refine Kd.R_mono (?_ : Kd.R Kd.string 9 _ w.heap.size (fun k_ => (True ∧ k_ ≠ gv) ∧ k_ ≠ gr) _ _) (fun _ _ => trivial); (with_reducible repeat (first | apply Kd.R_alloc | apply Kd.R_drewN | apply Kd.R_drew | refine Kd.R_far ?_ (fun _ hk => (by first | exact hk.2 | exact hk.1.2)) _)); exact Kd.R_types HP.out BR.out (by decide), zW HB.out⟩
 | false =>
  replace h : ((strings_Split.f a0 (⟨#[46]⟩ : ByteArray)).bind fun ps => if ps.length = 0 then none else if 3 < ps.length then some impl_partOf.no else impl_partOf.nums k ps (impl_partOf.back ps ps.length)) = some (r1, r2, r3, r4, r5, r6) := h
  replace h := Option.bind_eq_some_iff.mp h
  obtain ⟨ps, hsp, h⟩ := h
  have SP := Aside0.mk hsp
  clear hsp
  have hne : ¬ ps.length = 0 := fun e => by rw [if_pos e] at h; cases h
  rw [if_neg hne] at h
  have NE0 := Aside0.mk hne
  clear hne
  by_cases h3 : 3 < ps.length
  ·rw [if_pos h3] at h
   simp only [impl_partOf.no, Option.some.injEq, Prod.mk.injEq] at h
   obtain ⟨rfl, rfl, rfl, rfl, rfl, rfl⟩ := h
   have hl3 : (ps.length : Int) > 3 := by omega
   clear h3
   go_enter Tryd.func51, Tryd.ntmps51
   go_wp2_with (first
    | ((with_reducible refine zd 2 ?_); refine ze 2 26 #[.int .i64 0, .int .i64 0, .int .i64 0, .slice none 0 0] ?_; intro gr hg w1 hbox hb; have n0_ := zA (below_step (zW HB.out) hb); have BR := Aside0.mk hbox; have GR := zA ((by rw [hg]; exact below_size (zW HB.out)) : w.heap.size ≤ gr); clear HB; have HB := n0_; clear n0_ hb hbox hg)
    | (go_at_call 24; (with_reducible refine (impl_ParseVer.calls k a0 va vb vc vl _ _ ?hgw PV.out).mono ?_); (case hgw => exact GW.below HG.out (zW HB.out)); rintro e w2 ⟨v2, rfl, ho, hb⟩; have n0_ := zA (below_step (zW HB.out) hb); have n1_ := zA (blk_below (g := gr) (o := .cells #[.int .i64 0, .int .i64 0, .int .i64 0, .slice none 0 0] 26 (0, 0)) (by (with_reducible repeat (first | refine blk_drewN ?_ _ | refine blk_drew ?_ | refine blk_alloc ?_ _ | refine blk_far ?_ NE.out _ | refine blk_far ?_ NN.out _)); exact BR.out) hb); have HP := zA (Kd.R_lower ho (below_size (zW HB.out))); clear HB BR; have HB := n0_; have BR := n1_; clear n0_ n1_ hb ho; obtain ⟨Ao, co, eo⟩ := Kd.R_slice HP.out; subst eo; have rc0 : w2.cell? ⟨gr, 0, none⟩ = some (Value.int .i64 0) := (blk_cell BR.out 0).trans rfl; have rf0 := blk_frozen BR.out 0; have rc1 : w2.cell? ⟨gr, 1, none⟩ = some (Value.int .i64 0) := (blk_cell BR.out 1).trans rfl; have rf1 := blk_frozen BR.out 1; have rc2 : w2.cell? ⟨gr, 2, none⟩ = some (Value.int .i64 0) := (blk_cell BR.out 2).trans rfl; have rf2 := blk_frozen BR.out 2; have rc3 : w2.cell? ⟨gr, 3, none⟩ = some (Value.slice none 0 0) := (blk_cell BR.out 3).trans rfl; have rf3 := blk_frozen BR.out 3)
    | ((with_reducible refine zd 5 ?_); refine ze 5 26 #[.int .i64 0, .int .i64 0, .int .i64 0, .slice none 0 0] ?_; intro gv hg w4 hbox hb; have n0_ := zA (below_step (zW HB.out) hb); have n1_ := zA (blk_below (g := gr) (o := .cells #[.int .i64 0, .int .i64 0, .int .i64 0, .slice none 0 0] 26 (0, 0)) (by (with_reducible repeat (first | refine blk_drewN ?_ _ | refine blk_drew ?_ | refine blk_alloc ?_ _ | refine blk_far ?_ NE.out _ | refine blk_far ?_ NN.out _)); exact BR.out) hb); have n2_ := zA (Kd.R_types (Kd.R_below (zR HP.out) hb) hbox (by decide)); have BV := Aside0.mk hbox; have GV := zA ((by rw [hg]; exact below_size (zW HB.out)) : w.heap.size ≤ gv); have NE := zA ((by rw [hg]; exact Nat.ne_of_lt (blk_lt (by (with_reducible repeat (first | refine blk_drewN ?_ _ | refine blk_drew ?_ | refine blk_alloc ?_ _ | refine blk_far ?_ NE.out _ | refine blk_far ?_ NN.out _)); exact BR.out))) : gr ≠ gv); clear HB HP BR rc0 rc1 rc2 rc3 rf0 rf1 rf2 rf3; have HB := n0_; have HP := n2_; have BR := n1_; clear n0_ n2_ n1_ hb hbox hg; have hnv := trivial; have hne1 := NE.out; have hne2 := NE.out.symm; have rc0 : w4.cell? ⟨gr, 0, none⟩ = some (Value.int .i64 0) := (blk_cell BR.out 0).trans rfl; have rf0 := blk_frozen BR.out 0; have rc1 : w4.cell? ⟨gr, 1, none⟩ = some (Value.int .i64 0) := (blk_cell BR.out 1).trans rfl; have rf1 := blk_frozen BR.out 1; have rc2 : w4.cell? ⟨gr, 2, none⟩ = some (Value.int .i64 0) := (blk_cell BR.out 2).trans rfl; have rf2 := blk_frozen BR.out 2; have rc3 : w4.cell? ⟨gr, 3, none⟩ = some (Value.slice none 0 0) := (blk_cell BR.out 3).trans rfl; have rf3 := blk_frozen BR.out 3; have vc0 : w4.cell? ⟨gv, 0, none⟩ = some (Value.int .i64 0) := (blk_cell BV.out 0).trans rfl; have vf0 := blk_frozen BV.out 0; have vc1 : w4.cell? ⟨gv, 1, none⟩ = some (Value.int .i64 0) := (blk_cell BV.out 1).trans rfl; have vf1 := blk_frozen BV.out 1; have vc2 : w4.cell? ⟨gv, 2, none⟩ = some (Value.int .i64 0) := (blk_cell BV.out 2).trans rfl; have vf2 := blk_frozen BV.out 2; have vc3 : w4.cell? ⟨gv, 3, none⟩ = some (Value.slice none 0 0) := (blk_cell BV.out 3).trans rfl; have vf3 := blk_frozen BV.out 3)
    | (go_at_call 12; (with_reducible refine (strings_Split.calls a0 (⟨#[46]⟩ : ByteArray) ps _ ?hgw SP.out).mono ?_); (case hgw => exact GW.below HG.out (zW HB.out)); rintro e w3 ⟨v3, rfl, ho, hb⟩; have n0_ := zA (below_step (zW HB.out) hb); have n1_ := zA (blk_below (g := gr) (o := .cells #[.int .i64 0, .int .i64 0, .int .i64 0, .slice none 0 0] 26 (0, 0)) (by (with_reducible repeat (first | refine blk_drewN ?_ _ | refine blk_drew ?_ | refine blk_alloc ?_ _ | refine blk_far ?_ NE.out _ | refine blk_far ?_ NN.out _)); exact BR.out) hb); have HS := zA (Kd.R_lower ho (below_size (zW HB.out))); clear HB BR rc0 rc1 rc2 rc3 rf0 rf1 rf2 rf3 vc0 vc1 vc2 vc3 vf0 vf1 vf2 vf3; have HB := n0_; have BR := n1_; clear n0_ n1_ hb ho; obtain ⟨As, cs, es⟩ := Kd.R_slice HS.out; subst es; have rc0 : w3.cell? ⟨gr, 0, none⟩ = some (Value.int .i64 0) := (blk_cell BR.out 0).trans rfl; have rf0 := blk_frozen BR.out 0; have rc1 : w3.cell? ⟨gr, 1, none⟩ = some (Value.int .i64 0) := (blk_cell BR.out 1).trans rfl; have rf1 := blk_frozen BR.out 1; have rc2 : w3.cell? ⟨gr, 2, none⟩ = some (Value.int .i64 0) := (blk_cell BR.out 2).trans rfl; have rf2 := blk_frozen BR.out 2; have rc3 : w3.cell? ⟨gr, 3, none⟩ = some (Value.slice none 0 0) := (blk_cell BR.out 3).trans rfl; have rf3 := blk_frozen BR.out 3))
   refine bodyPost_ret (results_ctt rfl _ _ gr 26 #[.int .i64 0, .int .i64 0, .int .i64 0, .slice none 0 0] (0, 0) _ rfl (by (with_reducible repeat (first | refine blk_drewN ?_ _ | refine blk_drew ?_ | refine blk_alloc ?_ _ | refine blk_far ?_ NE.out _ | refine blk_far ?_ NN.out _)); refine blk_put (cs := #[.int .i64 0, .int .i64 0, .int .i64 0, .slice none 0 0]) ?_ 3 _ rfl; (with_reducible repeat (first | refine blk_drewN ?_ _ | refine blk_drew ?_ | refine blk_alloc ?_ _ | refine blk_far ?_ NE.out _ | refine blk_far ?_ NN.out _)); refine blk_put (cs := #[.int .i64 0, .int .i64 0, .int .i64 0, .slice none 0 0]) ?_ 2 _ rfl; (with_reducible repeat (first | refine blk_drewN ?_ _ | refine blk_drew ?_ | refine blk_alloc ?_ _ | refine blk_far ?_ NE.out _ | refine blk_far ?_ NN.out _)); refine blk_put (cs := #[.int .i64 0, .int .i64 0, .int .i64 0, .slice none 0 0]) ?_ 1 _ rfl; (with_reducible repeat (first | refine blk_drewN ?_ _ | refine blk_drew ?_ | refine blk_alloc ?_ _ | refine blk_far ?_ NE.out _ | refine blk_far ?_ NN.out _)); refine blk_put (cs := #[.int .i64 0, .int .i64 0, .int .i64 0, .slice none 0 0]) ?_ 0 _ rfl; (with_reducible repeat (first | refine blk_drewN ?_ _ | refine blk_drew ?_ | refine blk_alloc ?_ _ | refine blk_far ?_ NE.out _ | refine blk_far ?_ NN.out _)); exact BR.out) Tryd.underlying26 rfl (by kernel_rfl)) rfl ?_
   exact ⟨_, rfl, Kd.R_nil _ _ _ _ _, zW HB.out⟩
  ·rw [if_neg h3] at h
   have hl3 : ¬ (ps.length : Int) > 3 := by omega
   have L3 := Aside0.mk h3
   have REST := Aside0.mk h
   clear h3 h
   go_enter Tryd.func51, Tryd.ntmps51
   go_upto_block 0 with (first
    | ((with_reducible refine zd 2 ?_); refine ze 2 26 #[.int .i64 0, .int .i64 0, .int .i64 0, .slice none 0 0] ?_; intro gr hg w1 hbox hb; have n0_ := zA (below_step (zW HB.out) hb); have BR := Aside0.mk hbox; have GR := zA ((by rw [hg]; exact below_size (zW HB.out)) : w.heap.size ≤ gr); clear HB; have HB := n0_; clear n0_ hb hbox hg)
    | (go_at_call 24; (with_reducible refine (impl_ParseVer.calls k a0 va vb vc vl _ _ ?hgw PV.out).mono ?_); (case hgw => exact GW.below HG.out (zW HB.out)); rintro e w2 ⟨v2, rfl, ho, hb⟩; have n0_ := zA (below_step (zW HB.out) hb); have n1_ := zA (blk_below (g := gr) (o := .cells #[.int .i64 0, .int .i64 0, .int .i64 0, .slice none 0 0] 26 (0, 0)) (by (with_reducible repeat (first | refine blk_drewN ?_ _ | refine blk_drew ?_ | refine blk_alloc ?_ _ | refine blk_far ?_ NE.out _ | refine blk_far ?_ NN.out _)); exact BR.out) hb); have HP := zA (Kd.R_lower ho (below_size (zW HB.out))); clear HB BR; have HB := n0_; have BR := n1_; clear n0_ n1_ hb ho; obtain ⟨Ao, co, eo⟩ := Kd.R_slice HP.out; subst eo; have rc0 : w2.cell? ⟨gr, 0, none⟩ = some (Value.int .i64 0) := (blk_cell BR.out 0).trans rfl; have rf0 := blk_frozen BR.out 0; have rc1 : w2.cell? ⟨gr, 1, none⟩ = some (Value.int .i64 0) := (blk_cell BR.out 1).trans rfl; have rf1 := blk_frozen BR.out 1; have rc2 : w2.cell? ⟨gr, 2, none⟩ = some (Value.int .i64 0) := (blk_cell BR.out 2).trans rfl; have rf2 := blk_frozen BR.out 2; have rc3 : w2.cell? ⟨gr, 3, none⟩ = some (Value.slice none 0 0) := (blk_cell BR.out 3).trans rfl; have rf3 := blk_frozen BR.out 3)
    | ((with_reducible refine zd 5 ?_); refine ze 5 26 #[.int .i64 0, .int .i64 0, .int .i64 0, .slice none 0 0] ?_; intro gv hg w4 hbox hb; have n0_ := zA (below_step (zW HB.out) hb); have n1_ := zA (blk_below (g := gr) (o := .cells #[.int .i64 0, .int .i64 0, .int .i64 0, .slice none 0 0] 26 (0, 0)) (by (with_reducible repeat (first | refine blk_drewN ?_ _ | refine blk_drew ?_ | refine blk_alloc ?_ _ | refine blk_far ?_ NE.out _ | refine blk_far ?_ NN.out _)); exact BR.out) hb); have n2_ := zA (Kd.R_types (Kd.R_below (zR HP.out) hb) hbox (by decide)); have BV := Aside0.mk hbox; have GV := zA ((by rw [hg]; exact below_size (zW HB.out)) : w.heap.size ≤ gv); have NE := zA ((by rw [hg]; exact Nat.ne_of_lt (blk_lt (by (with_reducible repeat (first | refine blk_drewN ?_ _ | refine blk_drew ?_ | refine blk_alloc ?_ _ | refine blk_far ?_ NE.out _ | refine blk_far ?_ NN.out _)); exact BR.out))) : gr ≠ gv); clear HB HP BR rc0 rc1 rc2 rc3 rf0 rf1 rf2 rf3; have HB := n0_; have HP := n2_; have BR := n1_; clear n0_ n2_ n1_ hb hbox hg; have hnv := trivial; have hne1 := NE.out; have hne2 := NE.out.symm; have rc0 : w4.cell? ⟨gr, 0, none⟩ = some (Value.int .i64 0) := (blk_cell BR.out 0).trans rfl; have rf0 := blk_frozen BR.out 0; have rc1 : w4.cell? ⟨gr, 1, none⟩ = some (Value.int .i64 0) := (blk_cell BR.out 1).trans rfl; have rf1 := blk_frozen BR.out 1; have rc2 : w4.cell? ⟨gr, 2, none⟩ = some (Value.int .i64 0) := (blk_cell BR.out 2).trans rfl; have rf2 := blk_frozen BR.out 2; have rc3 : w4.cell? ⟨gr, 3, none⟩ = some (Value.slice none 0 0) := (blk_cell BR.out 3).trans rfl; have rf3 := blk_frozen BR.out 3; have vc0 : w4.cell? ⟨gv, 0, none⟩ = some (Value.int .i64 0) := (blk_cell BV.out 0).trans rfl; have vf0 := blk_frozen BV.out 0; have vc1 : w4.cell? ⟨gv, 1, none⟩ = some (Value.int .i64 0) := (blk_cell BV.out 1).trans rfl; have vf1 := blk_frozen BV.out 1; have vc2 : w4.cell? ⟨gv, 2, none⟩ = some (Value.int .i64 0) := (blk_cell BV.out 2).trans rfl; have vf2 := blk_frozen BV.out 2; have vc3 : w4.cell? ⟨gv, 3, none⟩ = some (Value.slice none 0 0) := (blk_cell BV.out 3).trans rfl; have vf3 := blk_frozen BV.out 3)
    | (go_at_call 12; (with_reducible refine (strings_Split.calls a0 (⟨#[46]⟩ : ByteArray) ps _ ?hgw SP.out).mono ?_); (case hgw => exact GW.below HG.out (zW HB.out)); rintro e w3 ⟨v3, rfl, ho, hb⟩; have n0_ := zA (below_step (zW HB.out) hb); have n1_ := zA (blk_below (g := gr) (o := .cells #[.int .i64 0, .int .i64 0, .int .i64 0, .slice none 0 0] 26 (0, 0)) (by (with_reducible repeat (first | refine blk_drewN ?_ _ | refine blk_drew ?_ | refine blk_alloc ?_ _ | refine blk_far ?_ NE.out _ | refine blk_far ?_ NN.out _)); exact BR.out) hb); have HS := zA (Kd.R_lower ho (below_size (zW HB.out))); clear HB BR rc0 rc1 rc2 rc3 rf0 rf1 rf2 rf3 vc0 vc1 vc2 vc3 vf0 vf1 vf2 vf3; have HB := n0_; have BR := n1_; clear n0_ n1_ hb ho; obtain ⟨As, cs, es⟩ := Kd.R_slice HS.out; subst es; have rc0 : w3.cell? ⟨gr, 0, none⟩ = some (Value.int .i64 0) := (blk_cell BR.out 0).trans rfl; have rf0 := blk_frozen BR.out 0; have rc1 : w3.cell? ⟨gr, 1, none⟩ = some (Value.int .i64 0) := (blk_cell BR.out 1).trans rfl; have rf1 := blk_frozen BR.out 1; have rc2 : w3.cell? ⟨gr, 2, none⟩ = some (Value.int .i64 0) := (blk_cell BR.out 2).trans rfl; have rf2 := blk_frozen BR.out 2; have rc3 : w3.cell? ⟨gr, 3, none⟩ = some (Value.slice none 0 0) := (blk_cell BR.out 3).trans rfl; have rf3 := blk_frozen BR.out 3))
   obtain ⟨gp, cap, ep, _⟩ := Kd.R_form HS.out (by have := NE0.out; omega)
   injection ep with ea_ _ ec_
   subst ea_
   subst ec_
   go_cut [8] (fun s8 wc => ∃ t : Nat, s8 = .int .i64 (t : Int) ∧ Aside0 (1 ≤ t ∧ t ≤ ps.length) ∧ Aside0 (impl_partOf.nums k ps t = some (r1, r2, r3, r4, r5, r6)) ∧ Aside0 (Below w.heap.size w wc) ∧ Aside0 (wc.heap[gr]? = some (.cells #[.int .i64 0, .int .i64 0, .int .i64 0, .slice none 0 0] 26 (0, 0))) ∧ Aside0 (Kd.string.R 9 wc w.heap.size (fun _ => True) (.slice (some ⟨gp, 0, none⟩) ps.length cs) ps))
   case first =>
    go_wp2_with fail
    go_loopg [8] ps.length (fun gg s8 wr => ∃ t : Nat, t ≤ gg ∧ s8 = .int .i64 (t : Int) ∧ Aside0 (1 ≤ t ∧ t ≤ ps.length) ∧ Aside0 (impl_partOf.nums k ps (impl_partOf.back ps t) = some (r1, r2, r3, r4, r5, r6)) ∧ Aside0 (Below w.heap.size w wr) ∧ Aside0 (wr.heap[gr]? = some (.cells #[.int .i64 0, .int .i64 0, .int .i64 0, .slice none 0 0] 26 (0, 0))) ∧ Aside0 (Kd.string.R 9 wr w.heap.size (fun _ => True) (.slice (some ⟨gp, 0, none⟩) ps.length cs) ps))
    case atStart => exact ⟨ps.length, Nat.le_refl _, rfl, ⟨by have := NE0.out; omega, Nat.le_refl _⟩, REST, ⟨zW HB.out⟩, ⟨by (with_reducible repeat (first | refine blk_drewN ?_ _ | refine blk_drew ?_ | refine blk_alloc ?_ _ | refine blk_far ?_ NE.out _ | refine blk_far ?_ NN.out _)); exact BR.out⟩, ⟨by (with_reducible repeat (first | apply Kd.R_alloc | apply Kd.R_drewN | apply Kd.R_drew | refine Kd.R_set ?_ BN.out (by decide) _ _)); exact HS.out⟩⟩
    case round =>
     clear REST HB BR HS
     obtain ⟨t, htg, rfl, TB, REST, HB, BR, HS⟩ := hrel
     have hp_ := TB.out
     by_cases h1t : t = 1
     ·subst h1t
      have hq : ¬ ((1 : Int) > 1) := by omega
      go_wp2
      go_meet
      case rel => exact ⟨1, rfl, TB, REST, ⟨zW HB.out⟩, ⟨by (with_reducible repeat (first | refine blk_drewN ?_ _ | refine blk_drew ?_ | refine blk_alloc ?_ _ | refine blk_far ?_ NE.out _ | refine blk_far ?_ NN.out _)); exact BR.out⟩, ⟨by (with_reducible repeat (first | apply Kd.R_alloc | apply Kd.R_drewN | apply Kd.R_drew | refine Kd.R_set ?_ BN.out (by decide) _ _)); exact HS.out⟩⟩
     ·obtain ⟨m, hm⟩ : ∃ m, t = m + 1 := ⟨t - 1, by omega⟩
      have hq : ((t : Int)) > 1 := by omega
      have hw : wrap64 ((t : Int) - 1) = (m : Int) := by unfold wrap64; omega
      have hl1 : (m : Int) < (ps.length : Int) := by omega
      have hl0 : (0 : Int) ≤ (m : Int) := by omega
      obtain ⟨pb, po, e_, hcell⟩ := Lb.C_string_plain (Kd.R_reads' HS.out).2.2 (by omega)
      cases e_
      have hx : wr.cell? ⟨gp, t - 1, none⟩ = some (.string (rdOf ByteArray.empty ps (m : Int))) := by
       rw [show t - 1 = m by omega]
       have := hcell m (rdOf ByteArray.empty ps (m : Int)) (by
        unfold rdOf
        rw [List.getD_eq_getElem?_getD, Int.toNat_natCast, List.getElem?_eq_getElem (show m < ps.length by omega)]
        rfl)
       rwa [Nat.zero_add] at this
      clear hcell
      have hH := REST.out
      have hback : impl_partOf.back ps t = if (rdOf ByteArray.empty ps (m : Int)).toList = ([120] : List UInt8) then impl_partOf.back ps m else t := by
       subst hm
       cases m with
       | zero => omega
       | succ m => rfl
      rw [hback] at hH
      clear REST
      by_cases he : (rdOf ByteArray.empty ps (m : Int)).toList = ([120] : List UInt8)
      ·rw [if_pos he] at hH
       have RST := Aside0.mk hH
       have s0 : ((rdOf ByteArray.empty ps (m : Int)).toList == ([120] : List UInt8)) = true := beq_iff_eq.mpr he
       have HM := Aside0.mk hm
       clear he hH hback hm
       go_wp2
       go_roundg m
       case measure => have := HM.out; omega
       case rel => exact ⟨m, Nat.le_refl _, by first | rfl | (congr 1; have := HM.out; omega), ⟨by have := HM.out; omega, by have := HM.out; omega⟩, RST, ⟨zW HB.out⟩, ⟨by (with_reducible repeat (first | refine blk_drewN ?_ _ | refine blk_drew ?_ | refine blk_alloc ?_ _ | refine blk_far ?_ NE.out _ | refine blk_far ?_ NN.out _)); exact BR.out⟩, ⟨by (with_reducible repeat (first | apply Kd.R_alloc | apply Kd.R_drewN | apply Kd.R_drew | refine Kd.R_set ?_ BN.out (by decide) _ _)); exact HS.out⟩⟩
      ·rw [if_neg he] at hH
       have RST := Aside0.mk hH
       have s0 : ((rdOf ByteArray.empty ps (m : Int)).toList == ([120] : List UInt8)) = false := beq_eq_false_iff_ne.mpr he
       clear he hH hback hm
       go_wp2
       go_meet
       case rel => exact ⟨t, rfl, TB, RST, ⟨zW HB.out⟩, ⟨by (with_reducible repeat (first | refine blk_drewN ?_ _ | refine blk_drew ?_ | refine blk_alloc ?_ _ | refine blk_far ?_ NE.out _ | refine blk_far ?_ NN.out _)); exact BR.out⟩, ⟨by (with_reducible repeat (first | apply Kd.R_alloc | apply Kd.R_drewN | apply Kd.R_drew | refine Kd.R_set ?_ BN.out (by decide) _ _)); exact HS.out⟩⟩
   case rest =>
    clear REST HB BR HS
    obtain ⟨t, rfl, TB, REST, HB, BR, HS⟩ := hcut
    have H := REST.out
    clear REST
    unfold impl_partOf.nums at H
    have hp_ := TB.out
    by_cases h2 : t ≤ 2
    ·rw [if_pos h2] at H
     have RST := Aside0.mk H
     clear H
     have hq : ¬ ((t : Int) > 2) := by omega
     have hq0 : (0 : Int) ≤ (t : Int) := by omega
     have hq1 : (t : Int) ≤ (ps.length : Int) := by omega
     have hq2 : (t : Int) ≤ (cs : Int) := by have := (Kd.R_reads' HS.out).2.1; omega
     have htn : ((t : Int)).toNat = t := by omega
     go_wp2_with (first
      | ((with_reducible refine zd 9 ?_); refine ze 9 105 #[.int .i64 0, .int .i64 0] ?_; intro gn hg w5 hbox hb; have n0_ := zA (below_step (zW HB.out) hb); have n1_ := zA (blk_below (g := gr) (o := .cells #[.int .i64 0, .int .i64 0, .int .i64 0, .slice none 0 0] 26 (0, 0)) (by (with_reducible repeat (first | refine blk_drewN ?_ _ | refine blk_drew ?_ | refine blk_alloc ?_ _ | refine blk_far ?_ NE.out _ | refine blk_far ?_ NN.out _)); exact BR.out) hb); have n2_ := zA (Kd.R_below (by (with_reducible repeat (first | apply Kd.R_alloc | apply Kd.R_drewN | apply Kd.R_drew | refine Kd.R_set ?_ BN.out (by decide) _ _)); exact HS.out) hb); have BN := Aside0.mk hbox; have GN := zA ((by rw [hg]; exact below_size (zW HB.out)) : w.heap.size ≤ gn); have NN := zA ((by rw [hg]; exact Nat.ne_of_lt (blk_lt (by (with_reducible repeat (first | refine blk_drewN ?_ _ | refine blk_drew ?_ | refine blk_alloc ?_ _ | refine blk_far ?_ NE.out _ | refine blk_far ?_ NN.out _)); exact BR.out))) : gr ≠ gn); clear HB BR HS; have HB := n0_; have BR := n1_; have HS := n2_; clear n0_ n1_ n2_ hb hbox hg))
     go_loopg [47] t (fun gg s47 wr => ∃ (m : Nat) (x y : Int), m ≤ t ∧ t - m ≤ gg ∧ s47 = .int .i64 (m : Int) ∧ (m = 0 → x = 0) ∧ (m ≤ 1 → y = 0) ∧ Aside0 (impl_partOf.rest k ps t (t - m) x y = some (r1, r2, r3, r4, r5, r6)) ∧ Aside0 (Below w.heap.size w wr) ∧ Aside0 (wr.heap[gr]? = some (.cells #[.int .i64 0, .int .i64 0, .int .i64 0, .slice none 0 0] 26 (0, 0))) ∧ Aside0 (wr.heap[gn]? = some (.cells #[.int .i64 x, .int .i64 y] 105 (0, 0))) ∧ Aside0 (Kd.string.R 9 wr w.heap.size (fun _ => True) (.slice (some ⟨gp, 0, none⟩) ps.length cs) ps))
     case atStart => exact ⟨0, 0, 0, by omega, by omega, rfl, fun _ => rfl, fun _ => rfl, RST, ⟨zW HB.out⟩, ⟨by (with_reducible repeat (first | refine blk_drewN ?_ _ | refine blk_drew ?_ | refine blk_alloc ?_ _ | refine blk_far ?_ NE.out _ | refine blk_far ?_ NN.out _)); exact BR.out⟩, ⟨by (with_reducible repeat (first | refine blk_drewN ?_ _ | refine blk_drew ?_ | refine blk_alloc ?_ _ | refine blk_far ?_ NE.out _ | refine blk_far ?_ NN.out _)); exact BN.out⟩, ⟨by (with_reducible repeat (first | apply Kd.R_alloc | apply Kd.R_drewN | apply Kd.R_drew | refine Kd.R_set ?_ BN.out (by decide) _ _)); exact HS.out⟩⟩
     case round =>
      clear RST HB BR HS BN
      obtain ⟨m, x, y, hmt, hmg, rfl, hx0, hy0, REST, HB, BR, BN, HS⟩ := hrel
      have H := REST.out
      clear REST
      by_cases hm : m = t
      ·subst hm
       rw [Nat.sub_self] at H
       replace H : some (x, y, (0 : Int), ([] : List ByteArray), (m : Int), true) = some (r1, r2, r3, r4, r5, r6) := H
       simp only [Option.some.injEq, Prod.mk.injEq] at H
       obtain ⟨rfl, rfl, rfl, rfl, rfl, rfl⟩ := H
       have hlt : ¬ ((m : Int) < (m : Int)) := by omega
       have hnn := NN.out.symm
       have nc0 : wr.cell? ⟨gn, 0, none⟩ = some (.int .i64 x) := (blk_cell BN.out 0).trans rfl
       have nc1 : wr.cell? ⟨gn, 1, none⟩ = some (.int .i64 y) := (blk_cell BN.out 1).trans rfl
       (have rc0 : wr.cell? ⟨gr, 0, none⟩ = some (Value.int .i64 0) := (blk_cell BR.out 0).trans rfl; have rf0 := blk_frozen BR.out 0; have rc1 : wr.cell? ⟨gr, 1, none⟩ = some (Value.int .i64 0) := (blk_cell BR.out 1).trans rfl; have rf1 := blk_frozen BR.out 1; have rc2 : wr.cell? ⟨gr, 2, none⟩ = some (Value.int .i64 0) := (blk_cell BR.out 2).trans rfl; have rf2 := blk_frozen BR.out 2; have rc3 : wr.cell? ⟨gr, 3, none⟩ = some (Value.slice none 0 0) := (blk_cell BR.out 3).trans rfl; have rf3 := blk_frozen BR.out 3)
       go_wp2
       refine bodyPost_ret (results_ctt rfl _ _ gr 26 #[.int .i64 x, .int .i64 y, .int .i64 0, .slice none 0 0] (0, 0) _ rfl (by (with_reducible repeat (first | refine blk_drewN ?_ _ | refine blk_drew ?_ | refine blk_alloc ?_ _ | refine blk_far ?_ NE.out _ | refine blk_far ?_ NN.out _)); refine blk_put (cs := #[.int .i64 x, .int .i64 y, .int .i64 0, .slice none 0 0]) ?_ 3 _ rfl; (with_reducible repeat (first | refine blk_drewN ?_ _ | refine blk_drew ?_ | refine blk_alloc ?_ _ | refine blk_far ?_ NE.out _ | refine blk_far ?_ NN.out _)); refine blk_put (cs := #[.int .i64 x, .int .i64 y, .int .i64 0, .slice none 0 0]) ?_ 2 _ rfl; (with_reducible repeat (first | refine blk_drewN ?_ _ | refine blk_drew ?_ | refine blk_alloc ?_ _ | refine blk_far ?_ NE.out _ | refine blk_far ?_ NN.out _)); refine blk_put (cs := #[.int .i64 x, .int .i64 0, .int .i64 0, .slice none 0 0]) ?_ 1 _ rfl; (with_reducible repeat (first | refine blk_drewN ?_ _ | refine blk_drew ?_ | refine blk_alloc ?_ _ | refine blk_far ?_ NE.out _ | refine blk_far ?_ NN.out _)); refine blk_put (cs := #[.int .i64 0, .int .i64 0, .int .i64 0, .slice none 0 0]) ?_ 0 _ rfl; (with_reducible repeat (first | refine blk_drewN ?_ _ | refine blk_drew ?_ | refine blk_alloc ?_ _ | refine blk_far ?_ NE.out _ | refine blk_far ?_ NN.out _)); exact BR.out) Tryd.underlying26 rfl (by kernel_rfl)) rfl ?_
       exact ⟨_, rfl, Kd.R_nil _ _ _ _ _, zW HB.out⟩
      ·obtain ⟨d, hd⟩ : ∃ d, t - m = d + 1 := ⟨t - m - 1, by omega⟩
       rw [hd] at H
       have htm : t - (d + 1) = m := by omega
       replace H : ((impl_ParseNum.f k (rdOf ByteArray.empty ps ((t - (d + 1) : Nat) : Int)) 9999).bind fun n => if n.2 = true then (if t - (d + 1) = 0 then impl_partOf.rest k ps t d n.1 y else impl_partOf.rest k ps t d x n.1) else some impl_partOf.no) = some (r1, r2, r3, r4, r5, r6) := H
       rw [htm] at H
       replace H := Option.bind_eq_some_iff.mp H
       obtain ⟨⟨n, ok⟩, hpn, H⟩ := H
       have PN := Aside0.mk hpn
       clear hpn
       have hlt : (m : Int) < (t : Int) := by omega
       have hm0 : (0 : Int) ≤ (m : Int) := by omega
       obtain ⟨pb, po, e_, hcell⟩ := Lb.C_string_plain (Kd.R_reads' HS.out).2.2 (by omega)
       cases e_
       have hx : wr.cell? ⟨gp, m, none⟩ = some (.string (rdOf ByteArray.empty ps (m : Int))) := by
        have := hcell m (rdOf ByteArray.empty ps (m : Int)) (by
         unfold rdOf
         rw [List.getD_eq_getElem?_getD, Int.toNat_natCast, List.getElem?_eq_getElem (show m < ps.length by omega)]
         rfl)
        rwa [Nat.zero_add] at this
       clear hcell
       cases ok with
       | false =>
        replace H : some impl_partOf.no = some (r1, r2, r3, r4, r5, r6) := H
        simp only [impl_partOf.no, Option.some.injEq, Prod.mk.injEq] at H
        obtain ⟨rfl, rfl, rfl, rfl, rfl, rfl⟩ := H
        rcases (show m = 0 ∨ m = 1 by omega) with rfl | rfl
        ·have PN1 := PN.out
         clear PN
         have PN := zA (show impl_ParseNum.f k (rdOf ByteArray.empty ps 0) 9999 = some (n, false) from PN1)
         clear PN1
         go_wp2_with (first
          | (go_at_call 49; (with_reducible refine (impl_ParseNum.calls k _ 9999 n false _ ?hgw PN.out).mono ?_); (case hgw => exact GW.below HG.out (zW HB.out)); rintro e w6 ⟨rfl, hb⟩; have n0_ := zA (below_step (zW HB.out) hb); have n1_ := zA (blk_below (g := gr) (o := .cells #[.int .i64 0, .int .i64 0, .int .i64 0, .slice none 0 0] 26 (0, 0)) (by (with_reducible repeat (first | refine blk_drewN ?_ _ | refine blk_drew ?_ | refine blk_alloc ?_ _ | refine blk_far ?_ NE.out _ | refine blk_far ?_ NN.out _)); exact BR.out) hb); have n2_ := zA (Kd.R_below (by (with_reducible repeat (first | apply Kd.R_alloc | apply Kd.R_drewN | apply Kd.R_drew | refine Kd.R_set ?_ BN.out (by decide) _ _)); exact HS.out) hb); have n3_ := zA (blk_below (g := gn) (o := .cells #[.int .i64 x, .int .i64 y] 105 (0, 0)) (by (with_reducible repeat (first | refine blk_drewN ?_ _ | refine blk_drew ?_ | refine blk_alloc ?_ _ | refine blk_far ?_ NE.out _ | refine blk_far ?_ NN.out _)); exact BN.out) hb); clear HB BR HS BN; have HB := n0_; have BR := n1_; have HS := n2_; have BN := n3_; clear n0_ n1_ n2_ n3_ hb; have hnn := NN.out; have hnn2 := NN.out.symm; have rc0 : w6.cell? ⟨gr, 0, none⟩ = some (Value.int .i64 0) := (blk_cell BR.out 0).trans rfl; have rf0 := blk_frozen BR.out 0; have rc1 : w6.cell? ⟨gr, 1, none⟩ = some (Value.int .i64 0) := (blk_cell BR.out 1).trans rfl; have rf1 := blk_frozen BR.out 1; have rc2 : w6.cell? ⟨gr, 2, none⟩ = some (Value.int .i64 0) := (blk_cell BR.out 2).trans rfl; have rf2 := blk_frozen BR.out 2; have rc3 : w6.cell? ⟨gr, 3, none⟩ = some (Value.slice none 0 0) := (blk_cell BR.out 3).trans rfl; have rf3 := blk_frozen BR.out 3; have nc0 : w6.cell? ⟨gn, 0, none⟩ = some (Value.int .i64 x) := (blk_cell BN.out 0).trans rfl; have nf0 := blk_frozen BN.out 0; have nc1 : w6.cell? ⟨gn, 1, none⟩ = some (Value.int .i64 y) := (blk_cell BN.out 1).trans rfl; have nf1 := blk_frozen BN.out 1))
         refine bodyPost_ret (results_ctt rfl _ _ gr 26 #[.int .i64 0, .int .i64 0, .int .i64 0, .slice none 0 0] (0, 0) _ rfl (by (with_reducible repeat (first | refine blk_drewN ?_ _ | refine blk_drew ?_ | refine blk_alloc ?_ _ | refine blk_far ?_ NE.out _ | refine blk_far ?_ NN.out _)); refine blk_put (cs := #[.int .i64 0, .int .i64 0, .int .i64 0, .slice none 0 0]) ?_ 3 _ rfl; (with_reducible repeat (first | refine blk_drewN ?_ _ | refine blk_drew ?_ | refine blk_alloc ?_ _ | refine blk_far ?_ NE.out _ | refine blk_far ?_ NN.out _)); refine blk_put (cs := #[.int .i64 0, .int .i64 0, .int .i64 0, .slice none 0 0]) ?_ 2 _ rfl; (with_reducible repeat (first | refine blk_drewN ?_ _ | refine blk_drew ?_ | refine blk_alloc ?_ _ | refine blk_far ?_ NE.out _ | refine blk_far ?_ NN.out _)); refine blk_put (cs := #[.int .i64 0, .int .i64 0, .int .i64 0, .slice none 0 0]) ?_ 1 _ rfl; (with_reducible repeat (first | refine blk_drewN ?_ _ | refine blk_drew ?_ | refine blk_alloc ?_ _ | refine blk_far ?_ NE.out _ | refine blk_far ?_ NN.out _)); refine blk_put (cs := #[.int .i64 0, .int .i64 0, .int .i64 0, .slice none 0 0]) ?_ 0 _ rfl; (with_reducible repeat (first | refine blk_drewN ?_ _ | refine blk_drew ?_ | refine blk_alloc ?_ _ | refine blk_far ?_ NE.out _ | refine blk_far ?_ NN.out _)); exact BR.out) Tryd.underlying26 rfl (by kernel_rfl)) rfl ?_
         exact ⟨_, rfl, Kd.R_nil _ _ _ _ _, zW HB.out⟩
        ·have PN1 := PN.out
         clear PN
         have PN := zA (show impl_ParseNum.f k (rdOf ByteArray.empty ps 1) 9999 = some (n, false) from PN1)
         clear PN1
         go_wp2_with (first
          | (go_at_call 49; (with_reducible refine (impl_ParseNum.calls k _ 9999 n false _ ?hgw PN.out).mono ?_); (case hgw => exact GW.below HG.out (zW HB.out)); rintro e w6 ⟨rfl, hb⟩; have n0_ := zA (below_step (zW HB.out) hb); have n1_ := zA (blk_below (g := gr) (o := .cells #[.int .i64 0, .int .i64 0, .int .i64 0, .slice none 0 0] 26 (0, 0)) (by (with_reducible repeat (first | refine blk_drewN ?_ _ | refine blk_drew ?_ | refine blk_alloc ?_ _ | refine blk_far ?_ NE.out _ | refine blk_far ?_ NN.out _)); exact BR.out) hb); have n2_ := zA (Kd.R_below (by (with_reducible repeat (first | apply Kd.R_alloc | apply Kd.R_drewN | apply Kd.R_drew | refine Kd.R_set ?_ BN.out (by decide) _ _)); exact HS.out) hb); have n3_ := zA (blk_below (g := gn) (o := .cells #[.int .i64 x, .int .i64 y] 105 (0, 0)) (by (with_reducible repeat (first | refine blk_drewN ?_ _ | refine blk_drew ?_ | refine blk_alloc ?_ _ | refine blk_far ?_ NE.out _ | refine blk_far ?_ NN.out _)); exact BN.out) hb); clear HB BR HS BN; have HB := n0_; have BR := n1_; have HS := n2_; have BN := n3_; clear n0_ n1_ n2_ n3_ hb; have hnn := NN.out; have hnn2 := NN.out.symm; have rc0 : w6.cell? ⟨gr, 0, none⟩ = some (Value.int .i64 0) := (blk_cell BR.out 0).trans rfl; have rf0 := blk_frozen BR.out 0; have rc1 : w6.cell? ⟨gr, 1, none⟩ = some (Value.int .i64 0) := (blk_cell BR.out 1).trans rfl; have rf1 := blk_frozen BR.out 1; have rc2 : w6.cell? ⟨gr, 2, none⟩ = some (Value.int .i64 0) := (blk_cell BR.out 2).trans rfl; have rf2 := blk_frozen BR.out 2; have rc3 : w6.cell? ⟨gr, 3, none⟩ = some (Value.slice none 0 0) := (blk_cell BR.out 3).trans rfl; have rf3 := blk_frozen BR.out 3; have nc0 : w6.cell? ⟨gn, 0, none⟩ = some (Value.int .i64 x) := (blk_cell BN.out 0).trans rfl; have nf0 := blk_frozen BN.out 0; have nc1 : w6.cell? ⟨gn, 1, none⟩ = some (Value.int .i64 y) := (blk_cell BN.out 1).trans rfl; have nf1 := blk_frozen BN.out 1))
         refine bodyPost_ret (results_ctt rfl _ _ gr 26 #[.int .i64 0, .int .i64 0, .int .i64 0, .slice none 0 0] (0, 0) _ rfl (by (with_reducible repeat (first | refine blk_drewN ?_ _ | refine blk_drew ?_ | refine blk_alloc ?_ _ | refine blk_far ?_ NE.out _ | refine blk_far ?_ NN.out _)); refine blk_put (cs := #[.int .i64 0, .int .i64 0, .int .i64 0, .slice none 0 0]) ?_ 3 _ rfl; (with_reducible repeat (first | refine blk_drewN ?_ _ | refine blk_drew ?_ | refine blk_alloc ?_ _ | refine blk_far ?_ NE.out _ | refine blk_far ?_ NN.out _)); refine blk_put (cs := #[.int .i64 0, .int .i64 0, .int .i64 0, .slice none 0 0]) ?_ 2 _ rfl; (with_reducible repeat (first | refine blk_drewN ?_ _ | refine blk_drew ?_ | refine blk_alloc ?_ _ | refine blk_far ?_ NE.out _ | refine blk_far ?_ NN.out _)); refine blk_put (cs := #[.int .i64 0, .int .i64 0, .int .i64 0, .slice none 0 0]) ?_ 1 _ rfl; (with_reducible repeat (first | refine blk_drewN ?_ _ | refine blk_drew ?_ | refine blk_alloc ?_ _ | refine blk_far ?_ NE.out _ | refine blk_far ?_ NN.out _)); refine blk_put (cs := #[.int .i64 0, .int .i64 0, .int .i64 0, .slice none 0 0]) ?_ 0 _ rfl; (with_reducible repeat (first | refine blk_drewN ?_ _ | refine blk_drew ?_ | refine blk_alloc ?_ _ | refine blk_far ?_ NE.out _ | refine blk_far ?_ NN.out _)); exact BR.out) Tryd.underlying26 rfl (by kernel_rfl)) rfl ?_
         exact ⟨_, rfl, Kd.R_nil _ _ _ _ _, zW HB.out⟩
       | true =>
        replace H : (if m = 0 then impl_partOf.rest k ps t d n y else impl_partOf.rest k ps t d x n) = some (r1, r2, r3, r4, r5, r6) := H
        rcases (show m = 0 ∨ m = 1 by omega) with rfl | rfl
        ·rw [if_pos rfl] at H
         have PN1 := PN.out
         clear PN
         have PN := zA (show impl_ParseNum.f k (rdOf ByteArray.empty ps 0) 9999 = some (n, true) from PN1)
         clear PN1
         have RST := zA (show impl_partOf.rest k ps t (t - 1) n y = some (r1, r2, r3, r4, r5, r6) by rw [show t - 1 = d by omega]; exact H)
         clear H
         go_wp2_with (first
          | (go_at_call 49; (with_reducible refine (impl_ParseNum.calls k _ 9999 n true _ ?hgw PN.out).mono ?_); (case hgw => exact GW.below HG.out (zW HB.out)); rintro e w6 ⟨rfl, hb⟩; have n0_ := zA (below_step (zW HB.out) hb); have n1_ := zA (blk_below (g := gr) (o := .cells #[.int .i64 0, .int .i64 0, .int .i64 0, .slice none 0 0] 26 (0, 0)) (by (with_reducible repeat (first | refine blk_drewN ?_ _ | refine blk_drew ?_ | refine blk_alloc ?_ _ | refine blk_far ?_ NE.out _ | refine blk_far ?_ NN.out _)); exact BR.out) hb); have n2_ := zA (Kd.R_below (by (with_reducible repeat (first | apply Kd.R_alloc | apply Kd.R_drewN | apply Kd.R_drew | refine Kd.R_set ?_ BN.out (by decide) _ _)); exact HS.out) hb); have n3_ := zA (blk_below (g := gn) (o := .cells #[.int .i64 x, .int .i64 y] 105 (0, 0)) (by (with_reducible repeat (first | refine blk_drewN ?_ _ | refine blk_drew ?_ | refine blk_alloc ?_ _ | refine blk_far ?_ NE.out _ | refine blk_far ?_ NN.out _)); exact BN.out) hb); clear HB BR HS BN; have HB := n0_; have BR := n1_; have HS := n2_; have BN := n3_; clear n0_ n1_ n2_ n3_ hb; have hnn := NN.out; have hnn2 := NN.out.symm; have rc0 : w6.cell? ⟨gr, 0, none⟩ = some (Value.int .i64 0) := (blk_cell BR.out 0).trans rfl; have rf0 := blk_frozen BR.out 0; have rc1 : w6.cell? ⟨gr, 1, none⟩ = some (Value.int .i64 0) := (blk_cell BR.out 1).trans rfl; have rf1 := blk_frozen BR.out 1; have rc2 : w6.cell? ⟨gr, 2, none⟩ = some (Value.int .i64 0) := (blk_cell BR.out 2).trans rfl; have rf2 := blk_frozen BR.out 2; have rc3 : w6.cell? ⟨gr, 3, none⟩ = some (Value.slice none 0 0) := (blk_cell BR.out 3).trans rfl; have rf3 := blk_frozen BR.out 3; have nc0 : w6.cell? ⟨gn, 0, none⟩ = some (Value.int .i64 x) := (blk_cell BN.out 0).trans rfl; have nf0 := blk_frozen BN.out 0; have nc1 : w6.cell? ⟨gn, 1, none⟩ = some (Value.int .i64 y) := (blk_cell BN.out 1).trans rfl; have nf1 := blk_frozen BN.out 1))
         go_roundg (t - 1)
         case measure => omega
         case rel => exact ⟨1, n, y, by omega, by omega, by first | rfl | go_num, fun h_ => by omega, fun _ => hy0 (by omega), RST, ⟨zW HB.out⟩, ⟨by (with_reducible repeat (first | refine blk_drewN ?_ _ | refine blk_drew ?_ | refine blk_alloc ?_ _ | refine blk_far ?_ NE.out _ | refine blk_far ?_ NN.out _)); exact BR.out⟩, ⟨by (with_reducible repeat (first | refine blk_drewN ?_ _ | refine blk_drew ?_ | refine blk_alloc ?_ _)); refine blk_put (cs := #[.int .i64 x, .int .i64 y]) ?_ 0 _ rfl; (with_reducible repeat (first | refine blk_drewN ?_ _ | refine blk_drew ?_ | refine blk_alloc ?_ _)); exact BN.out⟩, ⟨by (with_reducible repeat (first | apply Kd.R_alloc | apply Kd.R_drewN | apply Kd.R_drew | refine Kd.R_set ?_ BN.out (by decide) _ _)); exact HS.out⟩⟩
        ·rw [if_neg (by omega)] at H
         have PN1 := PN.out
         clear PN
         have PN := zA (show impl_ParseNum.f k (rdOf ByteArray.empty ps 1) 9999 = some (n, true) from PN1)
         clear PN1
         have RST := zA (show impl_partOf.rest k ps t (t - 2) x n = some (r1, r2, r3, r4, r5, r6) by rw [show t - 2 = d by omega]; exact H)
         clear H
         go_wp2_with (first
          | (go_at_call 49; (with_reducible refine (impl_ParseNum.calls k _ 9999 n true _ ?hgw PN.out).mono ?_); (case hgw => exact GW.below HG.out (zW HB.out)); rintro e w6 ⟨rfl, hb⟩; have n0_ := zA (below_step (zW HB.out) hb); have n1_ := zA (blk_below (g := gr) (o := .cells #[.int .i64 0, .int .i64 0, .int .i64 0, .slice none 0 0] 26 (0, 0)) (by (with_reducible repeat (first | refine blk_drewN ?_ _ | refine blk_drew ?_ | refine blk_alloc ?_ _ | refine blk_far ?_ NE.out _ | refine blk_far ?_ NN.out _)); exact BR.out) hb); have n2_ := zA (Kd.R_below (by (with_reducible repeat (first | apply Kd.R_alloc | apply Kd.R_drewN | apply Kd.R_drew | refine Kd.R_set ?_ BN.out (by decide) _ _)); exact HS.out) hb); have n3_ := zA (blk_below (g := gn) (o := .cells #[.int .i64 x, .int .i64 y] 105 (0, 0)) (by (with_reducible repeat (first | refine blk_drewN ?_ _ | refine blk_drew ?_ | refine blk_alloc ?_ _ | refine blk_far ?_ NE.out _ | refine blk_far ?_ NN.out _)); exact BN.out) hb); clear HB BR HS BN; have HB := n0_; have BR := n1_; have HS := n2_; have BN := n3_; clear n0_ n1_ n2_ n3_ hb; have hnn := NN.out; have hnn2 := NN.out.symm; have rc0 : w6.cell? ⟨gr, 0, none⟩ = some (Value.int .i64 0) := (blk_cell BR.out 0).trans rfl; have rf0 := blk_frozen BR.out 0; have rc1 : w6.cell? ⟨gr, 1, none⟩ = some (Value.int .i64 0) := (blk_cell BR.out 1).trans rfl; have rf1 := blk_frozen BR.out 1; have rc2 : w6.cell? ⟨gr, 2, none⟩ = some (Value.int .i64 0) := (blk_cell BR.out 2).trans rfl; have rf2 := blk_frozen BR.out 2; have rc3 : w6.cell? ⟨gr, 3, none⟩ = some (Value.slice none 0 0) := (blk_cell BR.out 3).trans rfl; have rf3 := blk_frozen BR.out 3; have nc0 : w6.cell? ⟨gn, 0, none⟩ = some (Value.int .i64 x) := (blk_cell BN.out 0).trans rfl; have nf0 := blk_frozen BN.out 0; have nc1 : w6.cell? ⟨gn, 1, none⟩ = some (Value.int .i64 y) := (blk_cell BN.out 1).trans rfl; have nf1 := blk_frozen BN.out 1))
         go_roundg (t - 2)
         case measure => omega
         case rel => exact ⟨2, x, n, by omega, by omega, by first | rfl | go_num, fun h_ => by omega, fun h_ => by omega, RST, ⟨zW HB.out⟩, ⟨by (with_reducible repeat (first | refine blk_drewN ?_ _ | refine blk_drew ?_ | refine blk_alloc ?_ _ | refine blk_far ?_ NE.out _ | refine blk_far ?_ NN.out _)); exact BR.out⟩, ⟨by (with_reducible repeat (first | refine blk_drewN ?_ _ | refine blk_drew ?_ | refine blk_alloc ?_ _)); refine blk_put (cs := #[.int .i64 x, .int .i64 y]) ?_ 1 _ rfl; (with_reducible repeat (first | refine blk_drewN ?_ _ | refine blk_drew ?_ | refine blk_alloc ?_ _)); exact BN.out⟩, ⟨by (with_reducible repeat (first | apply Kd.R_alloc | apply Kd.R_drewN | apply Kd.R_drew | refine Kd.R_set ?_ BN.out (by decide) _ _)); exact HS.out⟩⟩
    ·rw [if_neg h2] at H
     simp only [impl_partOf.no, Option.some.injEq, Prod.mk.injEq] at H
     obtain ⟨rfl, rfl, rfl, rfl, rfl, rfl⟩ := H
     have hq : (t : Int) > 2 := by omega
     (have rc0 : wc.cell? ⟨gr, 0, none⟩ = some (Value.int .i64 0) := (blk_cell BR.out 0).trans rfl; have rf0 := blk_frozen BR.out 0; have rc1 : wc.cell? ⟨gr, 1, none⟩ = some (Value.int .i64 0) := (blk_cell BR.out 1).trans rfl; have rf1 := blk_frozen BR.out 1; have rc2 : wc.cell? ⟨gr, 2, none⟩ = some (Value.int .i64 0) := (blk_cell BR.out 2).trans rfl; have rf2 := blk_frozen BR.out 2; have rc3 : wc.cell? ⟨gr, 3, none⟩ = some (Value.slice none 0 0) := (blk_cell BR.out 3).trans rfl; have rf3 := blk_frozen BR.out 3)
     go_wp2
     refine bodyPost_ret (results_ctt rfl _ _ gr 26 #[.int .i64 0, .int .i64 0, .int .i64 0, .slice none 0 0] (0, 0) _ rfl (by (with_reducible repeat (first | refine blk_drewN ?_ _ | refine blk_drew ?_ | refine blk_alloc ?_ _ | refine blk_far ?_ NE.out _ | refine blk_far ?_ NN.out _)); refine blk_put (cs := #[.int .i64 0, .int .i64 0, .int .i64 0, .slice none 0 0]) ?_ 3 _ rfl; (with_reducible repeat (first | refine blk_drewN ?_ _ | refine blk_drew ?_ | refine blk_alloc ?_ _ | refine blk_far ?_ NE.out _ | refine blk_far ?_ NN.out _)); refine blk_put (cs := #[.int .i64 0, .int .i64 0, .int .i64 0, .slice none 0 0]) ?_ 2 _ rfl; (with_reducible repeat (first | refine blk_drewN ?_ _ | refine blk_drew ?_ | refine blk_alloc ?_ _ | refine blk_far ?_ NE.out _ | refine blk_far ?_ NN.out _)); refine blk_put (cs := #[.int .i64 0, .int .i64 0, .int .i64 0, .slice none 0 0]) ?_ 1 _ rfl; (with_reducible repeat (first | refine blk_drewN ?_ _ | refine blk_drew ?_ | refine blk_alloc ?_ _ | refine blk_far ?_ NE.out _ | refine blk_far ?_ NN.out _)); refine blk_put (cs := #[.int .i64 0, .int .i64 0, .int .i64 0, .slice none 0 0]) ?_ 0 _ rfl; (with_reducible repeat (first | refine blk_drewN ?_ _ | refine blk_drew ?_ | refine blk_alloc ?_ _ | refine blk_far ?_ NE.out _ | refine blk_far ?_ NN.out _)); exact BR.out) Tryd.underlying26 rfl (by kernel_rfl)) rfl ?_
     exact ⟨_, rfl, Kd.R_nil _ _ _ _ _, zW HB.out⟩
/-! ### impl_nextOf: function 70 -/
def impl_nextOf.f (a0_0 : Int) (a0_1 : Int) (a0_2 : Int) (l0_3 : List ByteArray) (a1 : Int) : Option (Int × Int × Int × List ByteArray) := if a1 = 1 then (some (wrap64 (a0_0 + 1), 0, 0, ([] : List ByteArray))) else (if a1 = 2 then (some (a0_0, wrap64 (a0_1 + 1), 0, ([] : List ByteArray))) else (some (a0_0, a0_1, wrap64 (a0_2 + 1), ([] : List ByteArray))))
theorem impl_nextOf.calls (a0_0 : Int) (a0_1 : Int) (a0_2 : Int) (A0_3 : Option Addr) (c0_3 : Nat) (l0_3 : List ByteArray) (a1 : Int) (r1 : Int) (r2 : Int) (r3 : Int) (r4 : List ByteArray) (w : World) (hr0_3 : Kd.C Kd.string w A0_3 l0_3.length l0_3) (hc0_3 : l0_3.length ≤ c0_3) (h : impl_nextOf.f a0_0 a0_1 a0_2 l0_3 a1 = some (r1, r2, r3, r4)) :
  Calls Tryd.prog 70 #[.agg #[.int .i64 a0_0, .int .i64 a0_1, .int .i64 a0_2, .slice A0_3 l0_3.length c0_3], .int .i64 a1] w fun e w' => ∃ v3_ : Value, e = .returned (.agg #[.int .i64 r1, .int .i64 r2, .int .i64 r3, v3_]) ∧ Kd.R Kd.string 9 w' w.heap.size (fun _ => True) v3_ r4 ∧ Below w.heap.size w w' := by
 have hu26 := Tryd.underlying26
 have HR0_3 := Aside0.mk hr0_3
 have HC0_3 := Aside0.mk hc0_3
 clear hr0_3 hc0_3
 have HB := zA (Below.refl w.heap.size w)
 have H : (if a1 = 1 then (some (wrap64 (a0_0 + 1), 0, 0, ([] : List ByteArray))) else (if a1 = 2 then (some (a0_0, wrap64 (a0_1 + 1), 0, ([] : List ByteArray))) else (some (a0_0, a0_1, wrap64 (a0_2 + 1), ([] : List ByteArray))))) = some (r1, r2, r3, r4) := h
 clear h
 by_cases c3 : a1 = 1
 ·rw [if_pos c3] at H
  have c3b0 : (a1 == 1) = true := beq_iff_eq.mpr c3
  have c3b1 : (a1 != 1) = false := bne_eq_false_iff_eq.mpr c3
  clear c3
  simp only [Option.some.injEq, Prod.mk.injEq] at H
  obtain ⟨rfl, rfl, rfl, rfl⟩ := H
  go_enter Tryd.func70, Tryd.ntmps70
  go_wp2_with (first | ((with_reducible refine zd 2 ?_); refine ze 2 26 #[.int .i64 a0_0, .int .i64 a0_1, .int .i64 a0_2, .slice A0_3 l0_3.length c0_3] ?_; intro gb214 hg w4 hbox hb; have BK214 := zA (hbox); have GW214 := zi HB hg; have GE214 := zi HB hg; replace HB := zA (below_step (zB) hb); clear hb hbox hg) | ((with_reducible refine zd 4 ?_); refine ze 4 26 #[.int .i64 0, .int .i64 0, .int .i64 0, .slice none 0 0] ?_; intro gb215 hg w5 hbox hb; have BK215 := zA (hbox); have GW215 := zi HB hg; have GE215 := zi HB hg; replace HB := zh HB hb; have NB214_215 := zA (zL hg (zK BK214.out)); have NB215_214 := zA (zJ hg (zK BK214.out)); replace BK214 := zb BK214 hb; clear hb hbox hg; have hnb6 := NB214_215.out; have hnc6 := NB215_214.out; obtain ⟨hcz7_0, hcz7_1, hcz7_2, hcz7_3, hfz7_0, hfz7_1, hfz7_2, hfz7_3⟩ := ze4 BK214.out; obtain ⟨hcz8_0, hcz8_1, hcz8_2, hcz8_3, hfz8_0, hfz8_1, hfz8_2, hfz8_3⟩ := ze4 BK215.out))
  refine bodyPost_ret (results_cell_row rfl _ _ gb215 26 #[.int .i64 (wrap64 (a0_0 + 1)), .int .i64 0, .int .i64 0, .slice none 0 0] (0, 0) _ rfl (by (with_reducible repeat (first | refine blk_drewN ?_ _ | refine blk_drew ?_ | refine blk_alloc ?_ _)); refine blk_put (cs := #[.int .i64 (wrap64 (a0_0 + 1)), .int .i64 0, .int .i64 0, .slice none 0 0]) ?_ 3 _ rfl; (with_reducible repeat (first | refine blk_drewN ?_ _ | refine blk_drew ?_ | refine blk_alloc ?_ _)); refine blk_put (cs := #[.int .i64 (wrap64 (a0_0 + 1)), .int .i64 0, .int .i64 0, .slice none 0 0]) ?_ 2 _ rfl; (with_reducible repeat (first | refine blk_drewN ?_ _ | refine blk_drew ?_ | refine blk_alloc ?_ _)); refine blk_put (cs := #[.int .i64 (wrap64 (a0_0 + 1)), .int .i64 0, .int .i64 0, .slice none 0 0]) ?_ 1 _ rfl; (with_reducible repeat (first | refine blk_drewN ?_ _ | refine blk_drew ?_ | refine blk_alloc ?_ _)); refine blk_put (cs := #[.int .i64 0, .int .i64 0, .int .i64 0, .slice none 0 0]) ?_ 0 _ rfl; (with_reducible repeat (first | refine blk_drewN ?_ _ | refine blk_drew ?_ | refine blk_alloc ?_ _)); exact BK215.out) Tryd.underlying26 rfl (by kernel_rfl)) rfl ?_
  exact ⟨_, zE, by first | exact Kd.R_nil _ _ _ _ _ | exact Kd.N_nil _ _ _ _ _ | exact Kd.V_nil _ _ _ _ _ | exact Kd.Q_nil _ _ _ _ _ | exact Kd.S_nil _ _ _ _ _, zW HB.out⟩
 ·rw [if_neg c3] at H
  have c3b0 : (a1 == 1) = false := beq_eq_false_iff_ne.mpr c3
  have c3b1 : (a1 != 1) = true := bne_iff_ne.mpr c3
  by_cases c9 : a1 = 2
  ·rw [if_pos c9] at H
   have c9b0 : (a1 == 2) = true := beq_iff_eq.mpr c9
   have c9b1 : (a1 != 2) = false := bne_eq_false_iff_eq.mpr c9
   clear c9
   simp only [Option.some.injEq, Prod.mk.injEq] at H
   obtain ⟨rfl, rfl, rfl, rfl⟩ := H
   go_enter Tryd.func70, Tryd.ntmps70
   go_wp2_with (first | ((with_reducible refine zd 2 ?_); refine ze 2 26 #[.int .i64 a0_0, .int .i64 a0_1, .int .i64 a0_2, .slice A0_3 l0_3.length c0_3] ?_; intro gb214 hg w10 hbox hb; have BK214 := zA (hbox); have GW214 := zi HB hg; have GE214 := zi HB hg; replace HB := zA (below_step (zB) hb); clear hb hbox hg) | ((with_reducible refine zd 4 ?_); refine ze 4 26 #[.int .i64 0, .int .i64 0, .int .i64 0, .slice none 0 0] ?_; intro gb215 hg w11 hbox hb; have BK215 := zA (hbox); have GW215 := zi HB hg; have GE215 := zi HB hg; replace HB := zh HB hb; have NB214_215 := zA (zL hg (zK BK214.out)); have NB215_214 := zA (zJ hg (zK BK214.out)); replace BK214 := zb BK214 hb; clear hb hbox hg; have hnb12 := NB214_215.out; have hnc12 := NB215_214.out; obtain ⟨hcz13_0, hcz13_1, hcz13_2, hcz13_3, hfz13_0, hfz13_1, hfz13_2, hfz13_3⟩ := ze4 BK214.out; obtain ⟨hcz14_0, hcz14_1, hcz14_2, hcz14_3, hfz14_0, hfz14_1, hfz14_2, hfz14_3⟩ := ze4 BK215.out))
   refine bodyPost_ret (results_cell_row rfl _ _ gb215 26 #[.int .i64 a0_0, .int .i64 (wrap64 (a0_1 + 1)), .int .i64 0, .slice none 0 0] (0, 0) _ rfl (by (with_reducible repeat (first | refine blk_drewN ?_ _ | refine blk_drew ?_ | refine blk_alloc ?_ _)); refine blk_put (cs := #[.int .i64 a0_0, .int .i64 (wrap64 (a0_1 + 1)), .int .i64 0, .slice none 0 0]) ?_ 3 _ rfl; (with_reducible repeat (first | refine blk_drewN ?_ _ | refine blk_drew ?_ | refine blk_alloc ?_ _)); refine blk_put (cs := #[.int .i64 a0_0, .int .i64 (wrap64 (a0_1 + 1)), .int .i64 0, .slice none 0 0]) ?_ 2 _ rfl; (with_reducible repeat (first | refine blk_drewN ?_ _ | refine blk_drew ?_ | refine blk_alloc ?_ _)); refine blk_put (cs := #[.int .i64 a0_0, .int .i64 0, .int .i64 0, .slice none 0 0]) ?_ 1 _ rfl; (with_reducible repeat (first | refine blk_drewN ?_ _ | refine blk_drew ?_ | refine blk_alloc ?_ _)); refine blk_put (cs := #[.int .i64 0, .int .i64 0, .int .i64 0, .slice none 0 0]) ?_ 0 _ rfl; (with_reducible repeat (first | refine blk_drewN ?_ _ | refine blk_drew ?_ | refine blk_alloc ?_ _)); exact BK215.out) Tryd.underlying26 rfl (by kernel_rfl)) rfl ?_
   exact ⟨_, zE, by first | exact Kd.R_nil _ _ _ _ _ | exact Kd.N_nil _ _ _ _ _ | exact Kd.V_nil _ _ _ _ _ | exact Kd.Q_nil _ _ _ _ _ | exact Kd.S_nil _ _ _ _ _, zW HB.out⟩
  ·rw [if_neg c9] at H
   have c9b0 : (a1 == 2) = false := beq_eq_false_iff_ne.mpr c9
   have c9b1 : (a1 != 2) = true := bne_iff_ne.mpr c9
   simp only [Option.some.injEq, Prod.mk.injEq] at H
   obtain ⟨rfl, rfl, rfl, rfl⟩ := H
   go_enter Tryd.func70, Tryd.ntmps70
   go_wp2_with (first | ((with_reducible refine zd 2 ?_); refine ze 2 26 #[.int .i64 a0_0, .int .i64 a0_1, .int .i64 a0_2, .slice A0_3 l0_3.length c0_3] ?_; intro gb214 hg w15 hbox hb; have BK214 := zA (hbox); have GW214 := zi HB hg; have GE214 := zi HB hg; replace HB := zA (below_step (zB) hb); clear hb hbox hg) | ((with_reducible refine zd 4 ?_); refine ze 4 26 #[.int .i64 0, .int .i64 0, .int .i64 0, .slice none 0 0] ?_; intro gb215 hg w16 hbox hb; have BK215 := zA (hbox); have GW215 := zi HB hg; have GE215 := zi HB hg; replace HB := zh HB hb; have NB214_215 := zA (zL hg (zK BK214.out)); have NB215_214 := zA (zJ hg (zK BK214.out)); replace BK214 := zb BK214 hb; clear hb hbox hg; have hnb17 := NB214_215.out; have hnc17 := NB215_214.out; obtain ⟨hcz18_0, hcz18_1, hcz18_2, hcz18_3, hfz18_0, hfz18_1, hfz18_2, hfz18_3⟩ := ze4 BK214.out; obtain ⟨hcz19_0, hcz19_1, hcz19_2, hcz19_3, hfz19_0, hfz19_1, hfz19_2, hfz19_3⟩ := ze4 BK215.out))
   refine bodyPost_ret (results_cell_row rfl _ _ gb215 26 #[.int .i64 a0_0, .int .i64 a0_1, .int .i64 (wrap64 (a0_2 + 1)), .slice none 0 0] (0, 0) _ rfl (by (with_reducible repeat (first | refine blk_drewN ?_ _ | refine blk_drew ?_ | refine blk_alloc ?_ _)); refine blk_put (cs := #[.int .i64 a0_0, .int .i64 a0_1, .int .i64 (wrap64 (a0_2 + 1)), .slice none 0 0]) ?_ 3 _ rfl; (with_reducible repeat (first | refine blk_drewN ?_ _ | refine blk_drew ?_ | refine blk_alloc ?_ _)); refine blk_put (cs := #[.int .i64 a0_0, .int .i64 a0_1, .int .i64 0, .slice none 0 0]) ?_ 2 _ rfl; (with_reducible repeat (first | refine blk_drewN ?_ _ | refine blk_drew ?_ | refine blk_alloc ?_ _)); refine blk_put (cs := #[.int .i64 a0_0, .int .i64 0, .int .i64 0, .slice none 0 0]) ?_ 1 _ rfl; (with_reducible repeat (first | refine blk_drewN ?_ _ | refine blk_drew ?_ | refine blk_alloc ?_ _)); refine blk_put (cs := #[.int .i64 0, .int .i64 0, .int .i64 0, .slice none 0 0]) ?_ 0 _ rfl; (with_reducible repeat (first | refine blk_drewN ?_ _ | refine blk_drew ?_ | refine blk_alloc ?_ _)); exact BK215.out) Tryd.underlying26 rfl (by kernel_rfl)) rfl ?_
   exact ⟨_, zE, by first | exact Kd.R_nil _ _ _ _ _ | exact Kd.N_nil _ _ _ _ _ | exact Kd.V_nil _ _ _ _ _ | exact Kd.Q_nil _ _ _ _ _ | exact Kd.S_nil _ _ _ _ _, zW HB.out⟩
/-! ### impl_below: function 71 -/
def impl_below.f (a0_0 : Int) (a0_1 : Int) (a0_2 : Int) (l0_3 : List ByteArray) : Option (Int × Int × Int × Int × List ByteArray) := some (1, a0_0, a0_1, a0_2, (([(⟨#[48]⟩ : ByteArray)] : List ByteArray)))
theorem impl_below.calls (a0_0 : Int) (a0_1 : Int) (a0_2 : Int) (A0_3 : Option Addr) (c0_3 : Nat) (l0_3 : List ByteArray) (r1 : Int) (r2 : Int) (r3 : Int) (r4 : Int) (r5 : List ByteArray) (w : World) (hr0_3 : Kd.C Kd.string w A0_3 l0_3.length l0_3) (hc0_3 : l0_3.length ≤ c0_3) (h : impl_below.f a0_0 a0_1 a0_2 l0_3 = some (r1, r2, r3, r4, r5)) :
  Calls Tryd.prog 71 #[.agg #[.int .i64 a0_0, .int .i64 a0_1, .int .i64 a0_2, .slice A0_3 l0_3.length c0_3]] w fun e w' => ∃ v4_ : Value, e = .returned (.agg #[.int .i64 r1, .int .i64 r2, .int .i64 r3, .int .i64 r4, v4_]) ∧ Kd.R Kd.string 9 w' w.heap.size (fun _ => True) v4_ r5 ∧ Below w.heap.size w w' := by
 have hu26 := Tryd.underlying26
 have hu57 := Tryd.underlying57
 have HR0_3 := Aside0.mk hr0_3
 have HC0_3 := Aside0.mk hc0_3
 clear hr0_3 hc0_3
 have HB := zA (Below.refl w.heap.size w)
 have H : (some (1, a0_0, a0_1, a0_2, (([(⟨#[48]⟩ : ByteArray)] : List ByteArray)))) = some (r1, r2, r3, r4, r5) := h
 clear h
 obtain ⟨y218, hy218⟩ : ∃ y_ : List ByteArray, y_ = (([(⟨#[48]⟩ : ByteArray)] : List ByteArray)) := ⟨_, rfl⟩
 replace H : (some (1, a0_0, a0_1, a0_2, y218)) = some (r1, r2, r3, r4, r5) := by first | (rw [hy218]; with_reducible exact H) | (have H2_ := (Option.bind_some _ _).symm.trans H; rw [hy218]; with_reducible exact H2_) | (have H2_ := (Option.bind_some _ _).symm.trans H; with_reducible exact H2_) | with_reducible exact H | (rw [hy218]; exact H) | exact H
 have Ny218 := Aside0.mk hy218
 clear hy218
 simp only [Option.some.injEq, Prod.mk.injEq] at H
 obtain ⟨rfl, rfl, rfl, rfl, rfl⟩ := H
 go_enter Tryd.func71, Tryd.ntmps71
 go_wp2_with (first | ((with_reducible refine zd 1 ?_); refine ze 1 26 #[.int .i64 a0_0, .int .i64 a0_1, .int .i64 a0_2, .slice A0_3 l0_3.length c0_3] ?_; intro gb216 hg w2 hbox hb; have BK216 := zA (hbox); have GW216 := zi HB hg; have GE216 := zi HB hg; replace HB := zA (below_step (zB) hb); clear hb hbox hg) | ((with_reducible refine zd 2 ?_); refine ze 2 57 #[.int .i64 0, .int .i64 0, .int .i64 0, .int .i64 0, .slice none 0 0] ?_; intro gb217 hg w3 hbox hb; have BK217 := zA (hbox); have GW217 := zi HB hg; have GE217 := zi HB hg; replace HB := zh HB hb; have NB216_217 := zA (zL hg (zK BK216.out)); have NB217_216 := zA (zJ hg (zK BK216.out)); replace BK216 := zb BK216 hb; clear hb hbox hg) | ((with_reducible refine gate_dst (N := 3) rfl ?_); refine Kd.R_lit Kd.string _ 9 ?hg (N := 3) ?hd (xs := ([(⟨#[48]⟩ : ByteArray)] : List ByteArray)) (inner := [.string (⟨#[48]⟩ : ByteArray)]) (ok := fun _ => True) (okp := fun _ => True) ?hr ?hp (fun _ hk => hk) trivial (Below.refl _ _) (Nat.le_refl _) (by simp) ?_; (case hd => rfl); (case hg => rfl); (case hr => first | (go_simp; done) | (go_simp; rfl)); (case hp => exact (Reps.one (show Kd.M Kd.string _ _ _ (⟨#[48]⟩ : ByteArray) [.string (⟨#[48]⟩ : ByteArray)] from rfl) (Reps.none _ _))); intro v219 w4 ho5 hb hg_ hnew_; clear hg_ hnew_; (first | rw [← Ny218.out] at ho5 | (simp only [Int.reduceToNat] at ho5; rw [← Ny218.out] at ho5)); have HO220 := zA (Kd.R_lower ho5 (below_size (zW HB.out))); replace BK216 := zb BK216 hb; replace BK217 := zb BK217 hb; replace HB := zh HB hb; clear hb ho5; obtain ⟨Ao6, co6, eo6⟩ := Kd.R_slice HO220.out; subst eo6; have hnb7 := NB216_217.out; have hnc7 := NB217_216.out; obtain ⟨hcz8_0, hcz8_1, hcz8_2, hcz8_3, hfz8_0, hfz8_1, hfz8_2, hfz8_3⟩ := ze4 BK216.out; obtain ⟨hcz9_0, hcz9_1, hcz9_2, hcz9_3, hcz9_4, hfz9_0, hfz9_1, hfz9_2, hfz9_3, hfz9_4⟩ := ze5 BK217.out))
 refine bodyPost_ret (results_cell_row rfl _ _ gb217 57 #[.int .i64 1, .int .i64 a0_0, .int .i64 a0_1, .int .i64 a0_2, .slice Ao6 y218.length co6] (0, 0) _ rfl (by (with_reducible repeat (first | refine blk_drewN ?_ _ | refine blk_drew ?_ | refine blk_alloc ?_ _)); refine blk_put (cs := #[.int .i64 1, .int .i64 a0_0, .int .i64 a0_1, .int .i64 a0_2, .slice none 0 0]) ?_ 4 _ rfl; (with_reducible repeat (first | refine blk_drewN ?_ _ | refine blk_drew ?_ | refine blk_alloc ?_ _)); refine blk_put (cs := #[.int .i64 1, .int .i64 a0_0, .int .i64 a0_1, .int .i64 0, .slice none 0 0]) ?_ 3 _ rfl; (with_reducible repeat (first | refine blk_drewN ?_ _ | refine blk_drew ?_ | refine blk_alloc ?_ _)); refine blk_put (cs := #[.int .i64 1, .int .i64 a0_0, .int .i64 0, .int .i64 0, .slice none 0 0]) ?_ 2 _ rfl; (with_reducible repeat (first | refine blk_drewN ?_ _ | refine blk_drew ?_ | refine blk_alloc ?_ _)); refine blk_put (cs := #[.int .i64 1, .int .i64 0, .int .i64 0, .int .i64 0, .slice none 0 0]) ?_ 1 _ rfl; (with_reducible repeat (first | refine blk_drewN ?_ _ | refine blk_drew ?_ | refine blk_alloc ?_ _)); refine blk_put (cs := #[.int .i64 0, .int .i64 0, .int .i64 0, .int .i64 0, .slice none 0 0]) ?_ 0 _ rfl; (with_reducible repeat (first | refine blk_drewN ?_ _ | refine blk_drew ?_ | refine blk_alloc ?_ _)); refine blk_far ?_ NB217_216.out _; (with_reducible repeat (first | refine blk_drewN ?_ _ | refine blk_drew ?_ | refine blk_alloc ?_ _)); exact BK217.out) Tryd.underlying57 rfl (by kernel_rfl)) rfl ?_
 exact ⟨_, zE, by (with_reducible repeat (first | apply Kd.R_alloc | apply Kd.R_drewN | apply Kd.R_drew)); exact Kd.R_mono (Kd.R_far (p := ⟨gb217, 4, none⟩) (Kd.R_far (p := ⟨gb217, 3, none⟩) (Kd.R_far (p := ⟨gb217, 2, none⟩) (Kd.R_far (p := ⟨gb217, 1, none⟩) (Kd.R_far (p := ⟨gb217, 0, none⟩) (Kd.R_far (p := ⟨gb216, 3, none⟩) (Kd.R_types (Kd.R_types HO220.out BK216.out (by decide)) BK217.out (by decide)) (fun _ hk => hk.1.2) (.slice Ao6 y218.length co6)) (fun _ hk => hk.2) (.int .i64 1)) (fun _ hk => hk.2) (.int .i64 a0_0)) (fun _ hk => hk.2) (.int .i64 a0_1)) (fun _ hk => hk.2) (.int .i64 a0_2)) (fun _ hk => hk.2) (.slice Ao6 y218.length co6)) (fun _ hk => trivial), zW HB.out⟩
/-! ### impl_caret: function 72 -/
def impl_caret.j0 : Nat → Int → Bool → Int → Int → Int → List ByteArray → Option (Int × Int × Int × List ByteArray)
 | 0, _, _, _, _, _, _ => none
 | k + 1, x1, x5, x222000, x222001, x222002, x222003 => if x5 = true then (some (wrap64 (x222000 + 1), 0, 0, ([] : List ByteArray))) else (if x222001 = 0 then (if x1 = 2 then (some (0, wrap64 (x222001 + 1), 0, ([] : List ByteArray))) else (some (0, 0, wrap64 (x222002 + 1), ([] : List ByteArray)))) else (some (0, wrap64 (x222001 + 1), 0, ([] : List ByteArray))))
def impl_caret.f (k : Nat) (a0_0 : Int) (a0_1 : Int) (a0_2 : Int) (l0_3 : List ByteArray) (a1 : Int) : Option (Int × Int × Int × List ByteArray) := if a0_0 = 0 then (impl_caret.j0 k a1 (a1 == 1) a0_0 a0_1 a0_2 l0_3) else (impl_caret.j0 k a1 true a0_0 a0_1 a0_2 l0_3)
theorem impl_caret.calls (k : Nat) (a0_0 : Int) (a0_1 : Int) (a0_2 : Int) (A0_3 : Option Addr) (c0_3 : Nat) (l0_3 : List ByteArray) (a1 : Int) (r1 : Int) (r2 : Int) (r3 : Int) (r4 : List ByteArray) (w : World) (hr0_3 : Kd.C Kd.string w A0_3 l0_3.length l0_3) (hc0_3 : l0_3.length ≤ c0_3) (h : impl_caret.f k a0_0 a0_1 a0_2 l0_3 a1 = some (r1, r2, r3, r4)) :
  Calls Tryd.prog 72 #[.agg #[.int .i64 a0_0, .int .i64 a0_1, .int .i64 a0_2, .slice A0_3 l0_3.length c0_3], .int .i64 a1] w fun e w' => ∃ v3_ : Value, e = .returned (.agg #[.int .i64 r1, .int .i64 r2, .int .i64 r3, v3_]) ∧ Kd.R Kd.string 9 w' w.heap.size (fun _ => True) v3_ r4 ∧ Below w.heap.size w w' := by
 have hu26 := Tryd.underlying26
 have HR0_3 := Aside0.mk hr0_3
 have HC0_3 := Aside0.mk hc0_3
 clear hr0_3 hc0_3
 have HB := zA (Below.refl w.heap.size w)
 have H : (if a0_0 = 0 then (impl_caret.j0 k a1 (a1 == 1) a0_0 a0_1 a0_2 l0_3) else (impl_caret.j0 k a1 true a0_0 a0_1 a0_2 l0_3)) = some (r1, r2, r3, r4) := h
 clear h
 have HC3 := Aside0.mk H
 clear H
 go_enter Tryd.func72, Tryd.ntmps72
 go_upto_region 1 with (first | ((with_reducible refine zd 2 ?_); refine ze 2 26 #[.int .i64 a0_0, .int .i64 a0_1, .int .i64 a0_2, .slice A0_3 l0_3.length c0_3] ?_; intro gb221 hg w4 hbox hb; have BK221 := zA (hbox); have GW221 := zi HB hg; have GE221 := zi HB hg; replace HB := zA (below_step (zB) hb); clear hb hbox hg) | ((with_reducible refine zd 4 ?_); refine ze 4 26 #[.int .i64 0, .int .i64 0, .int .i64 0, .slice none 0 0] ?_; intro gb222 hg w5 hbox hb; have BK222 := zA (hbox); have GW222 := zi HB hg; have GE222 := zi HB hg; replace HB := zh HB hb; have NB221_222 := zA (zL hg (zK BK221.out)); have NB222_221 := zA (zJ hg (zK BK221.out)); replace BK221 := zb BK221 hb; clear hb hbox hg))
 (try simp only [Act.put, zT])
 go_cut [5] (fun v5 wc => ∃ (kq : Nat) (x5_2 : Bool), v5 = .bool x5_2 ∧ Aside0 (impl_caret.j0 kq a1 x5_2 a0_0 a0_1 a0_2 l0_3 = some (r1, r2, r3, r4)) ∧ Aside0 (kq ≤ k) ∧ Aside0 (wc.heap[gb221]? = some (.cells #[.int .i64 a0_0, .int .i64 a0_1, .int .i64 a0_2, (.slice A0_3 l0_3.length c0_3)] 26 (0, 0))) ∧ Aside0 (wc.heap[gb222]? = some (.cells #[.int .i64 0, .int .i64 0, .int .i64 0, (.slice none 0 0)] 26 (0, 0))) ∧ Aside0 (Below w.heap.size w wc))
 case first =>
  have H := HC3.out
  clear HC3
  by_cases c6 : a0_0 = 0
  ·rw [if_pos c6] at H
   have c6b0 : (a0_0 == 0) = true := beq_iff_eq.mpr c6
   have c6b1 : (a0_0 != 0) = false := bne_eq_false_iff_eq.mpr c6
   clear c6
   (first | rw [c6b0] | (simp only [i64_w, i32_w]; rw [c6b0]) | skip)
   have H' := Aside0.mk H
   clear H
   have hnb7 := NB221_222.out
   have hnc7 := NB222_221.out
   obtain ⟨hcz8_0, hcz8_1, hcz8_2, hcz8_3, hfz8_0, hfz8_1, hfz8_2, hfz8_3⟩ := ze4 BK221.out
   go_wp2
   go_meet
   case rel => exact ⟨_, ((a1 == 1)), zS, (by first | exact H' | (subst_vars; exact H')), ⟨by first | omega | exact Nat.le_refl _⟩, ⟨zK BK221.out⟩, ⟨zK BK222.out⟩, ⟨zW HB.out⟩⟩
  ·rw [if_neg c6] at H
   have c6b0 : (a0_0 == 0) = false := beq_eq_false_iff_ne.mpr c6
   have c6b1 : (a0_0 != 0) = true := bne_iff_ne.mpr c6
   (first | rw [c6b0] | (simp only [i64_w, i32_w]; rw [c6b0]) | skip)
   have H' := Aside0.mk H
   clear H
   have hnb9 := NB221_222.out
   have hnc9 := NB222_221.out
   obtain ⟨hcz10_0, hcz10_1, hcz10_2, hcz10_3, hfz10_0, hfz10_1, hfz10_2, hfz10_3⟩ := ze4 BK221.out
   go_wp2
   go_meet
   case rel => exact ⟨_, (true), zS, (by first | exact H' | (subst_vars; exact H')), ⟨by first | omega | exact Nat.le_refl _⟩, ⟨zK BK221.out⟩, ⟨zK BK222.out⟩, ⟨zW HB.out⟩⟩
 case rest =>
  clear HC3
  try clear p2
  try clear c6
  try clear c6b0
  try clear c6b1
  try clear c7
  try clear c9
  try clear hcz10_0
  try clear hcz10_1
  try clear hcz10_2
  try clear hcz10_3
  try clear hcz8_0
  try clear hcz8_1
  try clear hcz8_2
  try clear hcz8_3
  try clear hfz10_0
  try clear hfz10_1
  try clear hfz10_2
  try clear hfz10_3
  try clear hfz8_0
  try clear hfz8_1
  try clear hfz8_2
  try clear hfz8_3
  obtain ⟨kq, x5_2, rfl, HA, HJ2, BK221, BK222, HB⟩ := hcut
  cases kq with
  | zero => exact absurd HA.out (by simp [impl_caret.j0])
  | succ kj2 =>
   have H := HA.out
   clear HA
   simp only [impl_caret.j0] at H
   by_cases c11 : x5_2 = true
   ·subst c11
    rw [if_pos rfl] at H
    simp only [Option.some.injEq, Prod.mk.injEq] at H
    obtain ⟨rfl, rfl, rfl, rfl⟩ := H
    have hnb12 := NB221_222.out
    have hnc12 := NB222_221.out
    obtain ⟨hcz13_0, hcz13_1, hcz13_2, hcz13_3, hfz13_0, hfz13_1, hfz13_2, hfz13_3⟩ := ze4 BK221.out
    obtain ⟨hcz14_0, hcz14_1, hcz14_2, hcz14_3, hfz14_0, hfz14_1, hfz14_2, hfz14_3⟩ := ze4 BK222.out
    go_wp2
    refine bodyPost_ret (results_cell_row rfl _ _ gb222 26 #[.int .i64 (wrap64 (a0_0 + 1)), .int .i64 0, .int .i64 0, .slice none 0 0] (0, 0) _ rfl (by (with_reducible repeat (first | refine blk_drewN ?_ _ | refine blk_drew ?_ | refine blk_alloc ?_ _)); refine blk_put (cs := #[.int .i64 (wrap64 (a0_0 + 1)), .int .i64 0, .int .i64 0, .slice none 0 0]) ?_ 3 _ rfl; (with_reducible repeat (first | refine blk_drewN ?_ _ | refine blk_drew ?_ | refine blk_alloc ?_ _)); refine blk_put (cs := #[.int .i64 (wrap64 (a0_0 + 1)), .int .i64 0, .int .i64 0, .slice none 0 0]) ?_ 2 _ rfl; (with_reducible repeat (first | refine blk_drewN ?_ _ | refine blk_drew ?_ | refine blk_alloc ?_ _)); refine blk_put (cs := #[.int .i64 (wrap64 (a0_0 + 1)), .int .i64 0, .int .i64 0, .slice none 0 0]) ?_ 1 _ rfl; (with_reducible repeat (first | refine blk_drewN ?_ _ | refine blk_drew ?_ | refine blk_alloc ?_ _)); refine blk_put (cs := #[.int .i64 0, .int .i64 0, .int .i64 0, .slice none 0 0]) ?_ 0 _ rfl; (with_reducible repeat (first | refine blk_drewN ?_ _ | refine blk_drew ?_ | refine blk_alloc ?_ _)); exact BK222.out) Tryd.underlying26 rfl (by kernel_rfl)) rfl ?_
    exact ⟨_, zE, by first | exact Kd.R_nil _ _ _ _ _ | exact Kd.N_nil _ _ _ _ _ | exact Kd.V_nil _ _ _ _ _ | exact Kd.Q_nil _ _ _ _ _ | exact Kd.S_nil _ _ _ _ _, zW HB.out⟩
   ·replace c11 := Bool.eq_false_iff.mpr c11
    subst c11
    rw [if_neg zFT] at H
    by_cases c15 : a0_1 = 0
    ·rw [if_pos c15] at H
     have c15b0 : (a0_1 == 0) = true := beq_iff_eq.mpr c15
     have c15b1 : (a0_1 != 0) = false := bne_eq_false_iff_eq.mpr c15
     clear c15
     by_cases c16 : a1 = 2
     ·rw [if_pos c16] at H
      have c16b0 : (a1 == 2) = true := beq_iff_eq.mpr c16
      have c16b1 : (a1 != 2) = false := bne_eq_false_iff_eq.mpr c16
      clear c16
      simp only [Option.some.injEq, Prod.mk.injEq] at H
      obtain ⟨rfl, rfl, rfl, rfl⟩ := H
      have hnb17 := NB221_222.out
      have hnc17 := NB222_221.out
      obtain ⟨hcz18_0, hcz18_1, hcz18_2, hcz18_3, hfz18_0, hfz18_1, hfz18_2, hfz18_3⟩ := ze4 BK221.out
      obtain ⟨hcz19_0, hcz19_1, hcz19_2, hcz19_3, hfz19_0, hfz19_1, hfz19_2, hfz19_3⟩ := ze4 BK222.out
      go_wp2
      refine bodyPost_ret (results_cell_row rfl _ _ gb222 26 #[.int .i64 0, .int .i64 (wrap64 (a0_1 + 1)), .int .i64 0, .slice none 0 0] (0, 0) _ rfl (by (with_reducible repeat (first | refine blk_drewN ?_ _ | refine blk_drew ?_ | refine blk_alloc ?_ _)); refine blk_put (cs := #[.int .i64 0, .int .i64 (wrap64 (a0_1 + 1)), .int .i64 0, .slice none 0 0]) ?_ 3 _ rfl; (with_reducible repeat (first | refine blk_drewN ?_ _ | refine blk_drew ?_ | refine blk_alloc ?_ _)); refine blk_put (cs := #[.int .i64 0, .int .i64 (wrap64 (a0_1 + 1)), .int .i64 0, .slice none 0 0]) ?_ 2 _ rfl; (with_reducible repeat (first | refine blk_drewN ?_ _ | refine blk_drew ?_ | refine blk_alloc ?_ _)); refine blk_put (cs := #[.int .i64 0, .int .i64 0, .int .i64 0, .slice none 0 0]) ?_ 1 _ rfl; (with_reducible repeat (first | refine blk_drewN ?_ _ | refine blk_drew ?_ | refine blk_alloc ?_ _)); refine blk_put (cs := #[.int .i64 0, .int .i64 0, .int .i64 0, .slice none 0 0]) ?_ 0 _ rfl; (with_reducible repeat (first | refine blk_drewN ?_ _ | refine blk_drew ?_ | refine blk_alloc ?_ _)); exact BK222.out) Tryd.underlying26 rfl (by kernel_rfl)) rfl ?_
      exact ⟨_, zE, by first | exact Kd.R_nil _ _ _ _ _ | exact Kd.N_nil _ _ _ _ _ | exact Kd.V_nil _ _ _ _ _ | exact Kd.Q_nil _ _ _ _ _ | exact Kd.S_nil _ _ _ _ _, zW HB.out⟩
     ·rw [if_neg c16] at H
      have c16b0 : (a1 == 2) = false := beq_eq_false_iff_ne.mpr c16
      have c16b1 : (a1 != 2) = true := bne_iff_ne.mpr c16
      simp only [Option.some.injEq, Prod.mk.injEq] at H
      obtain ⟨rfl, rfl, rfl, rfl⟩ := H
      have hnb20 := NB221_222.out
      have hnc20 := NB222_221.out
      obtain ⟨hcz21_0, hcz21_1, hcz21_2, hcz21_3, hfz21_0, hfz21_1, hfz21_2, hfz21_3⟩ := ze4 BK221.out
      obtain ⟨hcz22_0, hcz22_1, hcz22_2, hcz22_3, hfz22_0, hfz22_1, hfz22_2, hfz22_3⟩ := ze4 BK222.out
      go_wp2
      refine bodyPost_ret (results_cell_row rfl _ _ gb222 26 #[.int .i64 0, .int .i64 0, .int .i64 (wrap64 (a0_2 + 1)), .slice none 0 0] (0, 0) _ rfl (by (with_reducible repeat (first | refine blk_drewN ?_ _ | refine blk_drew ?_ | refine blk_alloc ?_ _)); refine blk_put (cs := #[.int .i64 0, .int .i64 0, .int .i64 (wrap64 (a0_2 + 1)), .slice none 0 0]) ?_ 3 _ rfl; (with_reducible repeat (first | refine blk_drewN ?_ _ | refine blk_drew ?_ | refine blk_alloc ?_ _)); refine blk_put (cs := #[.int .i64 0, .int .i64 0, .int .i64 0, .slice none 0 0]) ?_ 2 _ rfl; (with_reducible repeat (first | refine blk_drewN ?_ _ | refine blk_drew ?_ | refine blk_alloc ?_ _)); refine blk_put (cs := #[.int .i64 0, .int .i64 0, .int .i64 0, .slice none 0 0]) ?_ 1 _ rfl; (with_reducible repeat (first | refine blk_drewN ?_ _ | refine blk_drew ?_ | refine blk_alloc ?_ _)); refine blk_put (cs := #[.int .i64 0, .int .i64 0, .int .i64 0, .slice none 0 0]) ?_ 0 _ rfl; (with_reducible repeat (first | refine blk_drewN ?_ _ | refine blk_drew ?_ | refine blk_alloc ?_ _)); exact BK222.out) Tryd.underlying26 rfl (by kernel_rfl)) rfl ?_
      exact ⟨_, zE, by first | exact Kd.R_nil _ _ _ _ _ | exact Kd.N_nil _ _ _ _ _ | exact Kd.V_nil _ _ _ _ _ | exact Kd.Q_nil _ _ _ _ _ | exact Kd.S_nil _ _ _ _ _, zW HB.out⟩
    ·rw [if_neg c15] at H
     have c15b0 : (a0_1 == 0) = false := beq_eq_false_iff_ne.mpr c15
     have c15b1 : (a0_1 != 0) = true := bne_iff_ne.mpr c15
     simp only [Option.some.injEq, Prod.mk.injEq] at H
     obtain ⟨rfl, rfl, rfl, rfl⟩ := H
     have hnb23 := NB221_222.out
     have hnc23 := NB222_221.out
     obtain ⟨hcz24_0, hcz24_1, hcz24_2, hcz24_3, hfz24_0, hfz24_1, hfz24_2, hfz24_3⟩ := ze4 BK221.out
     obtain ⟨hcz25_0, hcz25_1, hcz25_2, hcz25_3, hfz25_0, hfz25_1, hfz25_2, hfz25_3⟩ := ze4 BK222.out
     go_wp2
     refine bodyPost_ret (results_cell_row rfl _ _ gb222 26 #[.int .i64 0, .int .i64 (wrap64 (a0_1 + 1)), .int .i64 0, .slice none 0 0] (0, 0) _ rfl (by (with_reducible repeat (first | refine blk_drewN ?_ _ | refine blk_drew ?_ | refine blk_alloc ?_ _)); refine blk_put (cs := #[.int .i64 0, .int .i64 (wrap64 (a0_1 + 1)), .int .i64 0, .slice none 0 0]) ?_ 3 _ rfl; (with_reducible repeat (first | refine blk_drewN ?_ _ | refine blk_drew ?_ | refine blk_alloc ?_ _)); refine blk_put (cs := #[.int .i64 0, .int .i64 (wrap64 (a0_1 + 1)), .int .i64 0, .slice none 0 0]) ?_ 2 _ rfl; (with_reducible repeat (first | refine blk_drewN ?_ _ | refine blk_drew ?_ | refine blk_alloc ?_ _)); refine blk_put (cs := #[.int .i64 0, .int .i64 0, .int .i64 0, .slice none 0 0]) ?_ 1 _ rfl; (with_reducible repeat (first | refine blk_drewN ?_ _ | refine blk_drew ?_ | refine blk_alloc ?_ _)); refine blk_put (cs := #[.int .i64 0, .int .i64 0, .int .i64 0, .slice none 0 0]) ?_ 0 _ rfl; (with_reducible repeat (first | refine blk_drewN ?_ _ | refine blk_drew ?_ | refine blk_alloc ?_ _)); exact BK222.out) Tryd.underlying26 rfl (by kernel_rfl)) rfl ?_
     exact ⟨_, zE, by first | exact Kd.R_nil _ _ _ _ _ | exact Kd.N_nil _ _ _ _ _ | exact Kd.V_nil _ _ _ _ _ | exact Kd.Q_nil _ _ _ _ _ | exact Kd.S_nil _ _ _ _ _, zW HB.out⟩
end Go.Proofs.YtpcdhoeoefoeoaaDoor.PGA
