/- The walks of the functions that these laws reach, and what each comes to: printed by this session's program. -/
import Derived.Deep.CutBlock
import Derived.Test.YtpcdhoeoefoeoaaGreatDoorZGEPGEx0
import Derived.Test.YtpcdhoeoefoeoaaGreatDoorZGEPGEx17
import Derived.Test.YtpcdhoeoefoeoaaGreatDoorZGESays
import Derived.Test.YtpcdhoeoefoeoaaGreatDoorZGERegN
import Derived.Test.YtpcdhoeoefoeoaaGreatDoorZGERegs
namespace Go.Proofs.YtpcdhoeoefoeoaaGreatDoor.PGE
open Go.RowKit YtpcdhoeoefoeoaaGreatDoorW.PrintWords YtpcdhoeoefoeoaaGreatDoorW.PrintLast YtpcdhoeoefoeoaaGreatDoorW.PrintMore
attribute [local go_sem high] Mine.str_gtr Mine.str_leq Mine.str_geq
attribute [local go_sem] max2_int min2_int max_two min_two max_three min_three max_four min_four   -- for this text's walks alone
set_option linter.unusedVariables false
set_option maxHeartbeats 8000000
set_option maxRecDepth 100000
set_option linter.unusedSimpArgs false
/-! ### impl_partOf: function 168 -/
def impl_partOf.no : Int × Int × Int × List ByteArray × Int × Bool := (0, 0, 0, [], 0, false)
/-- So many pieces are left where the signs 'x' at the end fall away. -/
def impl_partOf.back (ps : List ByteArray) : Nat → Nat
 | 0 => 0
 | 1 => 1
 | t + 2 => if (rdOf ByteArray.empty ps ((t + 1 : Nat) : Int)).toList = ([120] : List UInt8) then impl_partOf.back ps (t + 1) else t + 2
/-- The last d of t pieces are still to be read; what is read so far. -/
def impl_partOf.rest (k : Nat) (ps : List ByteArray) (t : Nat) : Nat → Int → Int → Option (Int × Int × Int × List ByteArray × Int × Bool)
 | 0, x, y => some (x, y, 0, [], (t : Int), true)
 | d + 1, x, y => (impl_ParseNum.f k (rdOf ByteArray.empty ps ((t - (d + 1) : Nat) : Int)) 9999).bind fun n => if n.2 = true then (if t - (d + 1) = 0 then impl_partOf.rest k ps t d n.1 y else impl_partOf.rest k ps t d x n.1) else some impl_partOf.no
def impl_partOf.nums (k : Nat) (ps : List ByteArray) (t : Nat) : Option (Int × Int × Int × List ByteArray × Int × Bool) := if t ≤ 2 then impl_partOf.rest k ps t t 0 0 else some impl_partOf.no
def impl_partOf.f (k : Nat) (a0 : ByteArray) : Option (Int × Int × Int × List ByteArray × Int × Bool) :=
 (impl_ParseVer.f k a0).bind fun v => if v.2.2.2.2 = true then some (v.1, v.2.1, v.2.2.1, v.2.2.2.1, 3, true)
  else (strings_Split.f a0 (⟨#[46]⟩ : ByteArray)).bind fun ps => if ps.length = 0 then none else if 3 < ps.length then some impl_partOf.no else impl_partOf.nums k ps (impl_partOf.back ps ps.length)
theorem impl_partOf.back_le (ps : List ByteArray) : ∀ t, impl_partOf.back ps t ≤ t
 | 0 => Nat.le_refl _
 | 1 => Nat.le_refl _
 | t + 2 => by
  unfold impl_partOf.back
  split
  ·have := impl_partOf.back_le ps (t + 1)
   omega
  ·omega
theorem impl_partOf.calls (k : Nat) (a0 : ByteArray) (r1 r2 r3 : Int) (r4 : List ByteArray) (r5 : Int) (r6 : Bool) (w : World) (hG : GW w) (h : impl_partOf.f k a0 = some (r1, r2, r3, r4, r5, r6)) :
  Calls Tryz.prog 168 #[.string a0] w fun e w' => ∃ c7 : Value, e = .returned (.tuple #[.agg #[.int .i64 r1, .int .i64 r2, .int .i64 r3, c7], .int .i64 r5, .bool r6]) ∧ Kd.R Kd.string 9 w' w.heap.size (fun _ => True) c7 r4 ∧ Below w.heap.size w w' := by
 have hu_ := Tryz.underlying32
 have HG := zA hG
 have HB := zA (Below.refl w.heap.size w)
 clear hG
 unfold impl_partOf.f at h
 replace h := Option.bind_eq_some_iff.mp h
 obtain ⟨t, hpv, h⟩ := h
 obtain ⟨va, vb, vc, vl, vok⟩ := t
 have PV := zA hpv
 clear hpv
 cases vok with
 | true =>
  replace h : some (va, vb, vc, vl, (3 : Int), true) = some (r1, r2, r3, r4, r5, r6) := h
  simp only [Option.some.injEq, Prod.mk.injEq] at h
  obtain ⟨rfl, rfl, rfl, rfl, rfl, rfl⟩ := h
  go_enter Tryz.func168, Tryz.ntmps168
  go_wp2_with (first
   | ((with_reducible refine zd 2 ?_); refine ze 2 32 #[.int .i64 0, .int .i64 0, .int .i64 0, .slice none 0 0] ?_; intro gr hg w1 hbox hb; have a1 := zA (below_step (zW HB.out) hb); have BR := zA hbox; have GR := zA ((by rw [hg]; exact below_size (zW HB.out)) : w.heap.size ≤ gr); clear HB; have HB := a1; clear a1 hb hbox hg)
   | (go_at_call 128; (with_reducible refine (impl_ParseVer.calls k a0 va vb vc vl _ _ ?hgw PV.out).mono ?_); (case hgw => exact GW.below HG.out (zW HB.out)); rintro e w2 ⟨v2, rfl, ho, hb⟩; have a1 := zA (below_step (zW HB.out) hb); have a2 := zA (blk_below (zK BR.out) hb); have HP := zA (Kd.R_lower ho (below_size (zW HB.out))); clear HB BR; have HB := a1; have BR := a2; clear a1 a2 hb ho; obtain ⟨Ao, co, eo⟩ := Kd.R_slice HP.out; subst eo; have a4 := zc0 BR.out; have a5 := zF BR.out 0; have a6 := zc1 BR.out; have a7 := zF BR.out 1; have a8 := zc2 BR.out; have a9 := zF BR.out 2; have b0 := zc3 BR.out; have b1 := zF BR.out 3)
   | ((with_reducible refine zd 5 ?_); refine ze 5 32 #[.int .i64 0, .int .i64 0, .int .i64 0, .slice none 0 0] ?_; intro gv hg w4 hbox hb; have a1 := zA (below_step (zW HB.out) hb); have a2 := zA (blk_below (zK BR.out) hb); have a3 := zA (Kd.R_types (Kd.R_below (zR HP.out) hb) hbox (by decide)); have BV := zA hbox; have GV := zA ((by rw [hg]; exact below_size (zW HB.out)) : w.heap.size ≤ gv); have NE := zA ((by rw [hg]; exact Nat.ne_of_lt (blk_lt (zK BR.out))) : gr ≠ gv); clear HB HP BR a4 a6 a8 b0 a5 a7 a9 b1; have HB := a1; have HP := a3; have BR := a2; clear a1 a3 a2 hb hbox hg; have hnv := trivial; have c8 := NE.out; have c9 := NE.out.symm; have a4 := zc0 BR.out; have a5 := zF BR.out 0; have a6 := zc1 BR.out; have a7 := zF BR.out 1; have a8 := zc2 BR.out; have a9 := zF BR.out 2; have b0 := zc3 BR.out; have b1 := zF BR.out 3; have b4 := zc0 BV.out; have b5 := zF BV.out 0; have b6 := zc1 BV.out; have b7 := zF BV.out 1; have b8 := zc2 BV.out; have b9 := zF BV.out 2; have c0 := zc3 BV.out; have c1 := zF BV.out 3))
  refine bodyPost_ret (results_ctt rfl _ _ gr 32 #[.int .i64 va, .int .i64 vb, .int .i64 vc, .slice Ao vl.length co] (0, 0) _ rfl (zk4 BR.out) Tryz.underlying32 rfl (by kernel_rfl)) rfl ?_
  exact ⟨_, rfl, by refine Kd.R_mono (?_ : Kd.R Kd.string 9 _ w.heap.size (fun k_ => (True ∧ k_ ≠ gv) ∧ k_ ≠ gr) _ _) (fun _ _ => trivial); (with_reducible repeat (first | apply Kd.R_alloc | apply Kd.R_drewN | apply Kd.R_drew | refine Kd.R_far ?_ (fun _ hk => (by first | exact hk.2 | exact hk.1.2)) _)); exact Kd.R_types HP.out BR.out (by decide), zW HB.out⟩
 | false =>
  replace h : ((strings_Split.f a0 (⟨#[46]⟩ : ByteArray)).bind fun ps => if ps.length = 0 then none else if 3 < ps.length then some impl_partOf.no else impl_partOf.nums k ps (impl_partOf.back ps ps.length)) = some (r1, r2, r3, r4, r5, r6) := h; replace h := Option.bind_eq_some_iff.mp h; obtain ⟨ps, hsp, h⟩ := h; have SP := zA hsp; clear hsp
  have hne : ¬ ps.length = 0 := fun e => by rw [if_pos e] at h; cases h
  rw [if_neg hne] at h; have d0 := zA hne; clear hne
  by_cases h3 : 3 < ps.length
  ·rw [if_pos h3] at h
   simp only [impl_partOf.no, Option.some.injEq, Prod.mk.injEq] at h
   obtain ⟨rfl, rfl, rfl, rfl, rfl, rfl⟩ := h
   have d1 : (ps.length : Int) > 3 := by omega
   clear h3
   go_enter Tryz.func168, Tryz.ntmps168
   go_wp2_with (first
    | ((with_reducible refine zd 2 ?_); refine ze 2 32 #[.int .i64 0, .int .i64 0, .int .i64 0, .slice none 0 0] ?_; intro gr hg w1 hbox hb; have a1 := zA (below_step (zW HB.out) hb); have BR := zA hbox; have GR := zA ((by rw [hg]; exact below_size (zW HB.out)) : w.heap.size ≤ gr); clear HB; have HB := a1; clear a1 hb hbox hg)
    | (go_at_call 128; (with_reducible refine (impl_ParseVer.calls k a0 va vb vc vl _ _ ?hgw PV.out).mono ?_); (case hgw => exact GW.below HG.out (zW HB.out)); rintro e w2 ⟨v2, rfl, ho, hb⟩; have a1 := zA (below_step (zW HB.out) hb); have a2 := zA (blk_below (zK BR.out) hb); have HP := zA (Kd.R_lower ho (below_size (zW HB.out))); clear HB BR; have HB := a1; have BR := a2; clear a1 a2 hb ho; obtain ⟨Ao, co, eo⟩ := Kd.R_slice HP.out; subst eo; have a4 := zc0 BR.out; have a5 := zF BR.out 0; have a6 := zc1 BR.out; have a7 := zF BR.out 1; have a8 := zc2 BR.out; have a9 := zF BR.out 2; have b0 := zc3 BR.out; have b1 := zF BR.out 3)
    | ((with_reducible refine zd 5 ?_); refine ze 5 32 #[.int .i64 0, .int .i64 0, .int .i64 0, .slice none 0 0] ?_; intro gv hg w4 hbox hb; have a1 := zA (below_step (zW HB.out) hb); have a2 := zA (blk_below (zK BR.out) hb); have a3 := zA (Kd.R_types (Kd.R_below (zR HP.out) hb) hbox (by decide)); have BV := zA hbox; have GV := zA ((by rw [hg]; exact below_size (zW HB.out)) : w.heap.size ≤ gv); have NE := zA ((by rw [hg]; exact Nat.ne_of_lt (blk_lt (zK BR.out))) : gr ≠ gv); clear HB HP BR a4 a6 a8 b0 a5 a7 a9 b1; have HB := a1; have HP := a3; have BR := a2; clear a1 a3 a2 hb hbox hg; have hnv := trivial; have c8 := NE.out; have c9 := NE.out.symm; have a4 := zc0 BR.out; have a5 := zF BR.out 0; have a6 := zc1 BR.out; have a7 := zF BR.out 1; have a8 := zc2 BR.out; have a9 := zF BR.out 2; have b0 := zc3 BR.out; have b1 := zF BR.out 3; have b4 := zc0 BV.out; have b5 := zF BV.out 0; have b6 := zc1 BV.out; have b7 := zF BV.out 1; have b8 := zc2 BV.out; have b9 := zF BV.out 2; have c0 := zc3 BV.out; have c1 := zF BV.out 3)
    | (go_at_call 81; (with_reducible refine (strings_Split.calls a0 (⟨#[46]⟩ : ByteArray) ps _ ?hgw SP.out).mono ?_); (case hgw => exact GW.below HG.out (zW HB.out)); rintro e w3 ⟨v3, rfl, ho, hb⟩; have a1 := zA (below_step (zW HB.out) hb); have a2 := zA (blk_below (zK BR.out) hb); have HS := zA (Kd.R_lower ho (below_size (zW HB.out))); clear HB BR a4 a6 a8 b0 a5 a7 a9 b1 b4 b6 b8 c0 b5 b7 b9 c1; have HB := a1; have BR := a2; clear a1 a2 hb ho; obtain ⟨As, cs, es⟩ := Kd.R_slice HS.out; subst es; have a4 := zc0 BR.out; have a5 := zF BR.out 0; have a6 := zc1 BR.out; have a7 := zF BR.out 1; have a8 := zc2 BR.out; have a9 := zF BR.out 2; have b0 := zc3 BR.out; have b1 := zF BR.out 3))
   refine bodyPost_ret (results_ctt rfl _ _ gr 32 #[.int .i64 0, .int .i64 0, .int .i64 0, .slice none 0 0] (0, 0) _ rfl (zk4 BR.out) Tryz.underlying32 rfl (by kernel_rfl)) rfl ?_
   exact ⟨_, rfl, Kd.R_nil _ _ _ _ _, zW HB.out⟩
  rw [if_neg h3] at h
  have d1 : ¬ (ps.length : Int) > 3 := by omega
  have L3 := zA h3; have REST := zA h; clear h3 h
  go_enter Tryz.func168, Tryz.ntmps168
  go_upto_block 0 with (first
   | ((with_reducible refine zd 2 ?_); refine ze 2 32 #[.int .i64 0, .int .i64 0, .int .i64 0, .slice none 0 0] ?_; intro gr hg w1 hbox hb; have a1 := zA (below_step (zW HB.out) hb); have BR := zA hbox; have GR := zA ((by rw [hg]; exact below_size (zW HB.out)) : w.heap.size ≤ gr); clear HB; have HB := a1; clear a1 hb hbox hg)
   | (go_at_call 128; (with_reducible refine (impl_ParseVer.calls k a0 va vb vc vl _ _ ?hgw PV.out).mono ?_); (case hgw => exact GW.below HG.out (zW HB.out)); rintro e w2 ⟨v2, rfl, ho, hb⟩; have a1 := zA (below_step (zW HB.out) hb); have a2 := zA (blk_below (zK BR.out) hb); have HP := zA (Kd.R_lower ho (below_size (zW HB.out))); clear HB BR; have HB := a1; have BR := a2; clear a1 a2 hb ho; obtain ⟨Ao, co, eo⟩ := Kd.R_slice HP.out; subst eo; have a4 := zc0 BR.out; have a5 := zF BR.out 0; have a6 := zc1 BR.out; have a7 := zF BR.out 1; have a8 := zc2 BR.out; have a9 := zF BR.out 2; have b0 := zc3 BR.out; have b1 := zF BR.out 3)
   | ((with_reducible refine zd 5 ?_); refine ze 5 32 #[.int .i64 0, .int .i64 0, .int .i64 0, .slice none 0 0] ?_; intro gv hg w4 hbox hb; have a1 := zA (below_step (zW HB.out) hb); have a2 := zA (blk_below (zK BR.out) hb); have a3 := zA (Kd.R_types (Kd.R_below (zR HP.out) hb) hbox (by decide)); have BV := zA hbox; have GV := zA ((by rw [hg]; exact below_size (zW HB.out)) : w.heap.size ≤ gv); have NE := zA ((by rw [hg]; exact Nat.ne_of_lt (blk_lt (zK BR.out))) : gr ≠ gv); clear HB HP BR a4 a6 a8 b0 a5 a7 a9 b1; have HB := a1; have HP := a3; have BR := a2; clear a1 a3 a2 hb hbox hg; have hnv := trivial; have c8 := NE.out; have c9 := NE.out.symm; have a4 := zc0 BR.out; have a5 := zF BR.out 0; have a6 := zc1 BR.out; have a7 := zF BR.out 1; have a8 := zc2 BR.out; have a9 := zF BR.out 2; have b0 := zc3 BR.out; have b1 := zF BR.out 3; have b4 := zc0 BV.out; have b5 := zF BV.out 0; have b6 := zc1 BV.out; have b7 := zF BV.out 1; have b8 := zc2 BV.out; have b9 := zF BV.out 2; have c0 := zc3 BV.out; have c1 := zF BV.out 3)
   | (go_at_call 81; (with_reducible refine (strings_Split.calls a0 (⟨#[46]⟩ : ByteArray) ps _ ?hgw SP.out).mono ?_); (case hgw => exact GW.below HG.out (zW HB.out)); rintro e w3 ⟨v3, rfl, ho, hb⟩; have a1 := zA (below_step (zW HB.out) hb); have a2 := zA (blk_below (zK BR.out) hb); have HS := zA (Kd.R_lower ho (below_size (zW HB.out))); clear HB BR a4 a6 a8 b0 a5 a7 a9 b1 b4 b6 b8 c0 b5 b7 b9 c1; have HB := a1; have BR := a2; clear a1 a2 hb ho; obtain ⟨As, cs, es⟩ := Kd.R_slice HS.out; subst es; have a4 := zc0 BR.out; have a5 := zF BR.out 0; have a6 := zc1 BR.out; have a7 := zF BR.out 1; have a8 := zc2 BR.out; have a9 := zF BR.out 2; have b0 := zc3 BR.out; have b1 := zF BR.out 3))
  obtain ⟨gp, cap, ep, _⟩ := Kd.R_form HS.out (by have := d0.out; omega); injection ep with ea_ _ ec_; subst ea_; subst ec_
  go_cut [8] (fun s8 wc => ∃ t : Nat, s8 = .int .i64 (t : Int) ∧ Aside0 (1 ≤ t ∧ t ≤ ps.length) ∧ Aside0 (impl_partOf.nums k ps t = some (r1, r2, r3, r4, r5, r6)) ∧ Aside0 (Below w.heap.size w wc) ∧ Aside0 (wc.heap[gr]? = some (.cells #[.int .i64 0, .int .i64 0, .int .i64 0, .slice none 0 0] 32 (0, 0))) ∧ Aside0 (Kd.string.R 9 wc w.heap.size (fun _ => True) (.slice (some ⟨gp, 0, none⟩) ps.length cs) ps))
  case first =>
   go_wp2_with fail
   go_loopg [8] ps.length (fun gg s8 wr => ∃ t : Nat, t ≤ gg ∧ s8 = .int .i64 (t : Int) ∧ Aside0 (1 ≤ t ∧ t ≤ ps.length) ∧ Aside0 (impl_partOf.nums k ps (impl_partOf.back ps t) = some (r1, r2, r3, r4, r5, r6)) ∧ Aside0 (Below w.heap.size w wr) ∧ Aside0 (wr.heap[gr]? = some (.cells #[.int .i64 0, .int .i64 0, .int .i64 0, .slice none 0 0] 32 (0, 0))) ∧ Aside0 (Kd.string.R 9 wr w.heap.size (fun _ => True) (.slice (some ⟨gp, 0, none⟩) ps.length cs) ps))
   case atStart => exact ⟨ps.length, Nat.le_refl _, rfl, ⟨by have := d0.out; omega, Nat.le_refl _⟩, REST, ⟨zW HB.out⟩, ⟨zK BR.out⟩, ⟨by (with_reducible repeat (first | apply Kd.R_alloc | apply Kd.R_drewN | apply Kd.R_drew | refine Kd.R_set ?_ BN.out (by decide) _ _)); exact HS.out⟩⟩
   case round =>
    clear REST HB BR HS; obtain ⟨t, htg, rfl, TB, REST, HB, BR, HS⟩ := hrel; have hp_ := TB.out
    by_cases h1t : t = 1
    ·subst h1t
     have hq : ¬ ((1 : Int) > 1) := by omega
     go_wp2
     go_meet
     case rel => exact ⟨1, rfl, TB, REST, ⟨zW HB.out⟩, ⟨zK BR.out⟩, ⟨by (with_reducible repeat (first | apply Kd.R_alloc | apply Kd.R_drewN | apply Kd.R_drew | refine Kd.R_set ?_ BN.out (by decide) _ _)); exact HS.out⟩⟩
    obtain ⟨m, hm⟩ : ∃ m, t = m + 1 := ⟨t - 1, by omega⟩
    have hq : ((t : Int)) > 1 := by omega
    have hw : wrap64 ((t : Int) - 1) = (m : Int) := by unfold wrap64; omega
    have d4 : (m : Int) < (ps.length : Int) := by omega
    have d5 : (0 : Int) ≤ (m : Int) := by omega
    obtain ⟨pb, po, e_, hcell⟩ := Lb.C_string_plain (Kd.R_reads' HS.out).2.2 (by omega); cases e_
    have hx : wr.cell? ⟨gp, t - 1, none⟩ = some (.string (rdOf ByteArray.empty ps (m : Int))) := by
     rw [show t - 1 = m by omega]
     have := hcell m (rdOf ByteArray.empty ps (m : Int)) (by
      unfold rdOf; rw [List.getD_eq_getElem?_getD, Int.toNat_natCast, List.getElem?_eq_getElem (show m < ps.length by omega)]
      rfl)
     rwa [Nat.zero_add] at this
    clear hcell; have hH := REST.out
    have hback : impl_partOf.back ps t = if (rdOf ByteArray.empty ps (m : Int)).toList = ([120] : List UInt8) then impl_partOf.back ps m else t := by
     subst hm
     cases m with
     | zero => omega
     | succ m => rfl
    rw [hback] at hH; clear REST
    by_cases he : (rdOf ByteArray.empty ps (m : Int)).toList = ([120] : List UInt8)
    ·rw [if_pos he] at hH; have RST := zA hH; have s0 : ((rdOf ByteArray.empty ps (m : Int)).toList == ([120] : List UInt8)) = true := beq_iff_eq.mpr he; have HM := zA hm; clear he hH hback hm
     go_wp2
     go_roundg m
     case measure => have := HM.out; omega
     case rel => exact ⟨m, Nat.le_refl _, by first | rfl | (congr 1; have := HM.out; omega), ⟨by have := HM.out; omega, by have := HM.out; omega⟩, RST, ⟨zW HB.out⟩, ⟨zK BR.out⟩, ⟨by (with_reducible repeat (first | apply Kd.R_alloc | apply Kd.R_drewN | apply Kd.R_drew | refine Kd.R_set ?_ BN.out (by decide) _ _)); exact HS.out⟩⟩
    rw [if_neg he] at hH; have RST := zA hH; have s0 : ((rdOf ByteArray.empty ps (m : Int)).toList == ([120] : List UInt8)) = false := beq_eq_false_iff_ne.mpr he; clear he hH hback hm
    go_wp2
    go_meet
    case rel => exact ⟨t, rfl, TB, RST, ⟨zW HB.out⟩, ⟨zK BR.out⟩, ⟨by (with_reducible repeat (first | apply Kd.R_alloc | apply Kd.R_drewN | apply Kd.R_drew | refine Kd.R_set ?_ BN.out (by decide) _ _)); exact HS.out⟩⟩
  case rest =>
   clear REST HB BR HS; obtain ⟨t, rfl, TB, REST, HB, BR, HS⟩ := hcut; have H := REST.out; clear REST; unfold impl_partOf.nums at H; have hp_ := TB.out
   by_cases h2 : t ≤ 2
   ·rw [if_pos h2] at H; have RST := zA H; clear H
    have hq : ¬ ((t : Int) > 2) := by omega
    have d6 : (0 : Int) ≤ (t : Int) := by omega
    have d7 : (t : Int) ≤ (ps.length : Int) := by omega
    have d8 : (t : Int) ≤ (cs : Int) := by have := (Kd.R_reads' HS.out).2.1; omega
    have htn : ((t : Int)).toNat = t := by omega
    go_wp2_with (first
     | ((with_reducible refine zd 9 ?_); refine ze 9 202 #[.int .i64 0, .int .i64 0] ?_; intro gn hg w5 hbox hb; have a1 := zA (below_step (zW HB.out) hb); have a2 := zA (blk_below (zK BR.out) hb); have a3 := zA (Kd.R_below (by (with_reducible repeat (first | apply Kd.R_alloc | apply Kd.R_drewN | apply Kd.R_drew | refine Kd.R_set ?_ BN.out (by decide) _ _)); exact HS.out) hb); have BN := zA hbox; have GN := zA ((by rw [hg]; exact below_size (zW HB.out)) : w.heap.size ≤ gn); have NN := zA ((by rw [hg]; exact Nat.ne_of_lt (blk_lt (zK BR.out))) : gr ≠ gn); clear HB BR HS; have HB := a1; have BR := a2; have HS := a3; clear a1 a2 a3 hb hbox hg))
    go_loopg [47] t (fun gg d2 wr => ∃ (m : Nat) (x y : Int), m ≤ t ∧ t - m ≤ gg ∧ d2 = .int .i64 (m : Int) ∧ (m = 0 → x = 0) ∧ (m ≤ 1 → y = 0) ∧ Aside0 (impl_partOf.rest k ps t (t - m) x y = some (r1, r2, r3, r4, r5, r6)) ∧ Aside0 (Below w.heap.size w wr) ∧ Aside0 (wr.heap[gr]? = some (.cells #[.int .i64 0, .int .i64 0, .int .i64 0, .slice none 0 0] 32 (0, 0))) ∧ Aside0 (wr.heap[gn]? = some (.cells #[.int .i64 x, .int .i64 y] 202 (0, 0))) ∧ Aside0 (Kd.string.R 9 wr w.heap.size (fun _ => True) (.slice (some ⟨gp, 0, none⟩) ps.length cs) ps))
    case atStart => exact ⟨0, 0, 0, by omega, by omega, rfl, fun _ => rfl, fun _ => rfl, RST, ⟨zW HB.out⟩, ⟨zK BR.out⟩, ⟨zK BN.out⟩, ⟨by (with_reducible repeat (first | apply Kd.R_alloc | apply Kd.R_drewN | apply Kd.R_drew | refine Kd.R_set ?_ BN.out (by decide) _ _)); exact HS.out⟩⟩
    case round =>
     clear RST HB BR HS BN; obtain ⟨m, x, y, hmt, hmg, rfl, d9, d3, REST, HB, BR, BN, HS⟩ := hrel; have H := REST.out; clear REST
     by_cases hm : m = t
     ·subst hm; rw [Nat.sub_self] at H; replace H : some (x, y, (0 : Int), ([] : List ByteArray), (m : Int), true) = some (r1, r2, r3, r4, r5, r6) := H; simp only [zU] at H; obtain ⟨rfl, rfl, rfl, rfl, rfl, rfl⟩ := H
      have hlt : ¬ ((m : Int) < (m : Int)) := by omega
      have hnn := NN.out.symm; have c2 := zc0 BN.out; have c3 := zc1 BN.out
      (have a4 := zc0 BR.out; have a5 := zF BR.out 0; have a6 := zc1 BR.out; have a7 := zF BR.out 1; have a8 := zc2 BR.out; have a9 := zF BR.out 2; have b0 := zc3 BR.out; have b1 := zF BR.out 3)
      go_wp2
      refine bodyPost_ret (results_ctt rfl _ _ gr 32 #[.int .i64 x, .int .i64 y, .int .i64 0, .slice none 0 0] (0, 0) _ rfl (zk4 BR.out) Tryz.underlying32 rfl (by kernel_rfl)) rfl ?_
      exact ⟨_, rfl, Kd.R_nil _ _ _ _ _, zW HB.out⟩
     obtain ⟨d, hd⟩ : ∃ d, t - m = d + 1 := ⟨t - m - 1, by omega⟩; rw [hd] at H
     have htm : t - (d + 1) = m := by omega
     replace H : ((impl_ParseNum.f k (rdOf ByteArray.empty ps ((t - (d + 1) : Nat) : Int)) 9999).bind fun n => if n.2 = true then (if t - (d + 1) = 0 then impl_partOf.rest k ps t d n.1 y else impl_partOf.rest k ps t d x n.1) else some impl_partOf.no) = some (r1, r2, r3, r4, r5, r6) := H; rw [htm] at H; replace H := Option.bind_eq_some_iff.mp H; obtain ⟨⟨n, ok⟩, hpn, H⟩ := H; have PN := zA hpn; clear hpn
     have hlt : (m : Int) < (t : Int) := by omega
     have e0 : (0 : Int) ≤ (m : Int) := by omega
     obtain ⟨pb, po, e_, hcell⟩ := Lb.C_string_plain (Kd.R_reads' HS.out).2.2 (by omega); cases e_
     have hx : wr.cell? ⟨gp, m, none⟩ = some (.string (rdOf ByteArray.empty ps (m : Int))) := by
      have := hcell m (rdOf ByteArray.empty ps (m : Int)) (by
       unfold rdOf; rw [List.getD_eq_getElem?_getD, Int.toNat_natCast, List.getElem?_eq_getElem (show m < ps.length by omega)]
       rfl)
      rwa [Nat.zero_add] at this
     clear hcell
     cases ok with
     | false =>
      replace H : some impl_partOf.no = some (r1, r2, r3, r4, r5, r6) := H; simp only [impl_partOf.no, Option.some.injEq, Prod.mk.injEq] at H; obtain ⟨rfl, rfl, rfl, rfl, rfl, rfl⟩ := H
      rcases (show m = 0 ∨ m = 1 by omega) with rfl | rfl
      ·have b2 := PN.out; clear PN; have PN := zA (show impl_ParseNum.f k (rdOf ByteArray.empty ps 0) 9999 = some (n, false) from b2); clear b2
       go_wp2_with (first
        | (go_at_call 166; (with_reducible refine (impl_ParseNum.calls k _ 9999 n false _ ?hgw PN.out).mono ?_); (case hgw => exact GW.below HG.out (zW HB.out)); rintro e w6 ⟨rfl, hb⟩; have a1 := zA (below_step (zW HB.out) hb); have a2 := zA (blk_below (zK BR.out) hb); have a3 := zA (Kd.R_below (by (with_reducible repeat (first | apply Kd.R_alloc | apply Kd.R_drewN | apply Kd.R_drew | refine Kd.R_set ?_ BN.out (by decide) _ _)); exact HS.out) hb); have b3 := zA (blk_below (zK BN.out) hb); clear HB BR HS BN; have HB := a1; have BR := a2; have HS := a3; have BN := b3; clear a1 a2 a3 b3 hb; have hnn := NN.out; have c4 := NN.out.symm; have a4 := zc0 BR.out; have a5 := zF BR.out 0; have a6 := zc1 BR.out; have a7 := zF BR.out 1; have a8 := zc2 BR.out; have a9 := zF BR.out 2; have b0 := zc3 BR.out; have b1 := zF BR.out 3; have c2 := zc0 BN.out; have c5 := zF BN.out 0; have c3 := zc1 BN.out; have c6 := zF BN.out 1))
       refine bodyPost_ret (results_ctt rfl _ _ gr 32 #[.int .i64 0, .int .i64 0, .int .i64 0, .slice none 0 0] (0, 0) _ rfl (zk4 BR.out) Tryz.underlying32 rfl (by kernel_rfl)) rfl ?_
       exact ⟨_, rfl, Kd.R_nil _ _ _ _ _, zW HB.out⟩
      ·have b2 := PN.out; clear PN; have PN := zA (show impl_ParseNum.f k (rdOf ByteArray.empty ps 1) 9999 = some (n, false) from b2); clear b2
       go_wp2_with (first
        | (go_at_call 166; (with_reducible refine (impl_ParseNum.calls k _ 9999 n false _ ?hgw PN.out).mono ?_); (case hgw => exact GW.below HG.out (zW HB.out)); rintro e w6 ⟨rfl, hb⟩; have a1 := zA (below_step (zW HB.out) hb); have a2 := zA (blk_below (zK BR.out) hb); have a3 := zA (Kd.R_below (by (with_reducible repeat (first | apply Kd.R_alloc | apply Kd.R_drewN | apply Kd.R_drew | refine Kd.R_set ?_ BN.out (by decide) _ _)); exact HS.out) hb); have b3 := zA (blk_below (zK BN.out) hb); clear HB BR HS BN; have HB := a1; have BR := a2; have HS := a3; have BN := b3; clear a1 a2 a3 b3 hb; have hnn := NN.out; have c4 := NN.out.symm; have a4 := zc0 BR.out; have a5 := zF BR.out 0; have a6 := zc1 BR.out; have a7 := zF BR.out 1; have a8 := zc2 BR.out; have a9 := zF BR.out 2; have b0 := zc3 BR.out; have b1 := zF BR.out 3; have c2 := zc0 BN.out; have c5 := zF BN.out 0; have c3 := zc1 BN.out; have c6 := zF BN.out 1))
       refine bodyPost_ret (results_ctt rfl _ _ gr 32 #[.int .i64 0, .int .i64 0, .int .i64 0, .slice none 0 0] (0, 0) _ rfl (zk4 BR.out) Tryz.underlying32 rfl (by kernel_rfl)) rfl ?_
       exact ⟨_, rfl, Kd.R_nil _ _ _ _ _, zW HB.out⟩
     | true =>
      replace H : (if m = 0 then impl_partOf.rest k ps t d n y else impl_partOf.rest k ps t d x n) = some (r1, r2, r3, r4, r5, r6) := H
      rcases (show m = 0 ∨ m = 1 by omega) with rfl | rfl
      ·rw [if_pos rfl] at H; have b2 := PN.out; clear PN; have PN := zA (show impl_ParseNum.f k (rdOf ByteArray.empty ps 0) 9999 = some (n, true) from b2); clear b2; have RST := zA (show impl_partOf.rest k ps t (t - 1) n y = some (r1, r2, r3, r4, r5, r6) by rw [show t - 1 = d by omega]; exact H); clear H
       go_wp2_with (first
        | (go_at_call 166; (with_reducible refine (impl_ParseNum.calls k _ 9999 n true _ ?hgw PN.out).mono ?_); (case hgw => exact GW.below HG.out (zW HB.out)); rintro e w6 ⟨rfl, hb⟩; have a1 := zA (below_step (zW HB.out) hb); have a2 := zA (blk_below (zK BR.out) hb); have a3 := zA (Kd.R_below (by (with_reducible repeat (first | apply Kd.R_alloc | apply Kd.R_drewN | apply Kd.R_drew | refine Kd.R_set ?_ BN.out (by decide) _ _)); exact HS.out) hb); have b3 := zA (blk_below (zK BN.out) hb); clear HB BR HS BN; have HB := a1; have BR := a2; have HS := a3; have BN := b3; clear a1 a2 a3 b3 hb; have hnn := NN.out; have c4 := NN.out.symm; have a4 := zc0 BR.out; have a5 := zF BR.out 0; have a6 := zc1 BR.out; have a7 := zF BR.out 1; have a8 := zc2 BR.out; have a9 := zF BR.out 2; have b0 := zc3 BR.out; have b1 := zF BR.out 3; have c2 := zc0 BN.out; have c5 := zF BN.out 0; have c3 := zc1 BN.out; have c6 := zF BN.out 1))
       go_roundg (t - 1)
       case measure => omega
       case rel => exact ⟨1, n, y, by omega, by omega, by first | rfl | go_num, fun h_ => by omega, fun _ => d3 (by omega), RST, ⟨zW HB.out⟩, ⟨zK BR.out⟩, ⟨by (with_reducible repeat (first | refine blk_drewN ?_ _ | refine blk_drew ?_ | refine blk_alloc ?_ _)); refine blk_put (cs := #[.int .i64 x, .int .i64 y]) ?_ 0 _ rfl; (with_reducible repeat (first | refine blk_drewN ?_ _ | refine blk_drew ?_ | refine blk_alloc ?_ _)); exact BN.out⟩, ⟨by (with_reducible repeat (first | apply Kd.R_alloc | apply Kd.R_drewN | apply Kd.R_drew | refine Kd.R_set ?_ BN.out (by decide) _ _)); exact HS.out⟩⟩
      ·rw [if_neg (by omega)] at H; have b2 := PN.out; clear PN; have PN := zA (show impl_ParseNum.f k (rdOf ByteArray.empty ps 1) 9999 = some (n, true) from b2); clear b2; have RST := zA (show impl_partOf.rest k ps t (t - 2) x n = some (r1, r2, r3, r4, r5, r6) by rw [show t - 2 = d by omega]; exact H); clear H
       go_wp2_with (first
        | (go_at_call 166; (with_reducible refine (impl_ParseNum.calls k _ 9999 n true _ ?hgw PN.out).mono ?_); (case hgw => exact GW.below HG.out (zW HB.out)); rintro e w6 ⟨rfl, hb⟩; have a1 := zA (below_step (zW HB.out) hb); have a2 := zA (blk_below (zK BR.out) hb); have a3 := zA (Kd.R_below (by (with_reducible repeat (first | apply Kd.R_alloc | apply Kd.R_drewN | apply Kd.R_drew | refine Kd.R_set ?_ BN.out (by decide) _ _)); exact HS.out) hb); have b3 := zA (blk_below (zK BN.out) hb); clear HB BR HS BN; have HB := a1; have BR := a2; have HS := a3; have BN := b3; clear a1 a2 a3 b3 hb; have hnn := NN.out; have c4 := NN.out.symm; have a4 := zc0 BR.out; have a5 := zF BR.out 0; have a6 := zc1 BR.out; have a7 := zF BR.out 1; have a8 := zc2 BR.out; have a9 := zF BR.out 2; have b0 := zc3 BR.out; have b1 := zF BR.out 3; have c2 := zc0 BN.out; have c5 := zF BN.out 0; have c3 := zc1 BN.out; have c6 := zF BN.out 1))
       go_roundg (t - 2)
       case measure => omega
       case rel => exact ⟨2, x, n, by omega, by omega, by first | rfl | go_num, fun h_ => by omega, fun h_ => by omega, RST, ⟨zW HB.out⟩, ⟨zK BR.out⟩, ⟨by (with_reducible repeat (first | refine blk_drewN ?_ _ | refine blk_drew ?_ | refine blk_alloc ?_ _)); refine blk_put (cs := #[.int .i64 x, .int .i64 y]) ?_ 1 _ rfl; (with_reducible repeat (first | refine blk_drewN ?_ _ | refine blk_drew ?_ | refine blk_alloc ?_ _)); exact BN.out⟩, ⟨by (with_reducible repeat (first | apply Kd.R_alloc | apply Kd.R_drewN | apply Kd.R_drew | refine Kd.R_set ?_ BN.out (by decide) _ _)); exact HS.out⟩⟩
   rw [if_neg h2] at H; simp only [impl_partOf.no, Option.some.injEq, Prod.mk.injEq] at H; obtain ⟨rfl, rfl, rfl, rfl, rfl, rfl⟩ := H
   have hq : (t : Int) > 2 := by omega
   (have a4 := zc0 BR.out; have a5 := zF BR.out 0; have a6 := zc1 BR.out; have a7 := zF BR.out 1; have a8 := zc2 BR.out; have a9 := zF BR.out 2; have b0 := zc3 BR.out; have b1 := zF BR.out 3)
   go_wp2
   refine bodyPost_ret (results_ctt rfl _ _ gr 32 #[.int .i64 0, .int .i64 0, .int .i64 0, .slice none 0 0] (0, 0) _ rfl (zk4 BR.out) Tryz.underlying32 rfl (by kernel_rfl)) rfl ?_
   exact ⟨_, rfl, Kd.R_nil _ _ _ _ _, zW HB.out⟩
/-! ### impl_nextOf: function 191 -/
def impl_nextOf.f (a0 a2 a3 : Int) (a4 : List ByteArray) (a1 : Int) : Option (Int × Int × Int × List ByteArray) := if a1 = 1 then (some (wrap64 (a0 + 1), 0, 0, ([] : List ByteArray))) else (if a1 = 2 then (some (a0, wrap64 (a2 + 1), 0, ([] : List ByteArray))) else (some (a0, a2, wrap64 (a3 + 1), ([] : List ByteArray))))
theorem impl_nextOf.calls (a0 a3 a5 : Int) (a9 : Option Addr) (b0 : Nat) (a2 : List ByteArray) (a1 r1 r2 r3 : Int) (r4 : List ByteArray) (w : World) (b4 : Kd.C Kd.string w a9 a2.length a2) (b5 : a2.length ≤ b0) (h : impl_nextOf.f a0 a3 a5 a2 a1 = some (r1, r2, r3, r4)) :
  Calls Tryz.prog 191 #[.agg #[.int .i64 a0, .int .i64 a3, .int .i64 a5, .slice a9 a2.length b0], .int .i64 a1] w fun e w' => ∃ b6 : Value, e = .returned (.agg #[.int .i64 r1, .int .i64 r2, .int .i64 r3, b6]) ∧ Kd.R Kd.string 9 w' w.heap.size (fun _ => True) b6 r4 ∧ Below w.heap.size w w' := by
 have b9 := Tryz.underlying32
 have c0 := zA b4
 have c1 := zA b5
 clear b4 b5
 have HB := zA (Below.refl w.heap.size w)
 unfold impl_nextOf.f at h
 have H := h
 clear h
 go_enter Tryz.func191, Tryz.ntmps191
 go_upto_if 6 with (first | ((with_reducible refine zd 2 ?_); refine ze 2 32 #[.int .i64 a0, .int .i64 a3, .int .i64 a5, .slice a9 a2.length b0] ?_; intro c2 hg w4 hbox hb; have a4 := zA (hbox); have c4 := zi HB hg; have c5 := zi HB hg; replace HB := zA (below_step (zB) hb); clear hb hbox hg) | ((with_reducible refine zd 4 ?_); refine ze 4 32 #[.int .i64 0, .int .i64 0, .int .i64 0, .slice none 0 0] ?_; intro b1 hg w5 hbox hb; have a6 := zA (hbox); have c6 := zi HB hg; have c7 := zi HB hg; replace HB := zh HB hb; have b7 := zA (zL hg (zK a4.out)); have b8 := zA (zJ hg (zK a4.out)); replace a4 := zb a4 hb; clear hb hbox hg; have c8 := b7.out; have d0 := b8.out; obtain ⟨d1, d2, d3, d4, d5, d6, d7, d8⟩ := ze4 a4.out; obtain ⟨d9, e0, e1, e2, e3, e4, e5, e6⟩ := ze4 a6.out))
 (try simp only [Act.put, zT])
 replace H := zI1 H
 rcases H with ⟨c3, H⟩ | ⟨c3, H⟩
 ·have a7 := beq_iff_eq.mpr c3; have a8 := bne_eq_false_iff_eq.mpr c3; clear c3; simp only [zU] at H; obtain ⟨rfl, rfl, rfl, rfl⟩ := H
  (try simp only [a7, a8])
  go_wp2
  refine bodyPost_ret (results_cell_row rfl _ _ b1 32 #[.int .i64 (wrap64 (a0 + 1)), .int .i64 0, .int .i64 0, .slice none 0 0] (0, 0) _ rfl (zk4 a6.out) Tryz.underlying32 rfl (by kernel_rfl)) rfl ?_
  exact ⟨_, zE, by first | exact Kd.R_nil _ _ _ _ _ | exact Kd.N_nil _ _ _ _ _ | exact Kd.V_nil _ _ _ _ _ | exact Kd.Q_nil _ _ _ _ _ | exact Kd.S_nil _ _ _ _ _, zW HB.out⟩
 have a7 := beq_eq_false_iff_ne.mpr c3
 have a8 := bne_iff_ne.mpr c3
 replace H := zI1 H
 rcases H with ⟨c9, H⟩ | ⟨c9, H⟩
 ·have b2 := beq_iff_eq.mpr c9; have b3 := bne_eq_false_iff_eq.mpr c9; clear c9; simp only [zU] at H; obtain ⟨rfl, rfl, rfl, rfl⟩ := H
  (try simp only [a7, a8, b2, b3])
  go_wp2
  refine bodyPost_ret (results_cell_row rfl _ _ b1 32 #[.int .i64 a0, .int .i64 (wrap64 (a3 + 1)), .int .i64 0, .slice none 0 0] (0, 0) _ rfl (zk4 a6.out) Tryz.underlying32 rfl (by kernel_rfl)) rfl ?_
  exact ⟨_, zE, by first | exact Kd.R_nil _ _ _ _ _ | exact Kd.N_nil _ _ _ _ _ | exact Kd.V_nil _ _ _ _ _ | exact Kd.Q_nil _ _ _ _ _ | exact Kd.S_nil _ _ _ _ _, zW HB.out⟩
 have b2 := beq_eq_false_iff_ne.mpr c9
 have b3 := bne_iff_ne.mpr c9
 simp only [zU] at H
 obtain ⟨rfl, rfl, rfl, rfl⟩ := H
 (try simp only [a7, a8, b2, b3])
 go_wp2
 refine bodyPost_ret (results_cell_row rfl _ _ b1 32 #[.int .i64 a0, .int .i64 a3, .int .i64 (wrap64 (a5 + 1)), .slice none 0 0] (0, 0) _ rfl (zk4 a6.out) Tryz.underlying32 rfl (by kernel_rfl)) rfl ?_
 exact ⟨_, zE, by first | exact Kd.R_nil _ _ _ _ _ | exact Kd.N_nil _ _ _ _ _ | exact Kd.V_nil _ _ _ _ _ | exact Kd.Q_nil _ _ _ _ _ | exact Kd.S_nil _ _ _ _ _, zW HB.out⟩
/-! ### impl_below: function 192 -/
def impl_below.f (a0 a1 a2 : Int) (a3 : List ByteArray) : Option (Int × Int × Int × Int × List ByteArray) := some (1, a0, a1, a2, (([(⟨#[48]⟩ : ByteArray)] : List ByteArray)))
theorem impl_below.calls (a1 a2 a3 : Int) (a9 : Option Addr) (b0 : Nat) (a4 : List ByteArray) (r1 r2 r3 r4 : Int) (r5 : List ByteArray) (w : World) (b4 : Kd.C Kd.string w a9 a4.length a4) (b5 : a4.length ≤ b0) (h : impl_below.f a1 a2 a3 a4 = some (r1, r2, r3, r4, r5)) :
  Calls Tryz.prog 192 #[.agg #[.int .i64 a1, .int .i64 a2, .int .i64 a3, .slice a9 a4.length b0]] w fun e w' => ∃ b6 : Value, e = .returned (.agg #[.int .i64 r1, .int .i64 r2, .int .i64 r3, .int .i64 r4, b6]) ∧ Kd.R Kd.string 9 w' w.heap.size (fun _ => True) b6 r5 ∧ Below w.heap.size w w' := by
 have c3 := Tryz.underlying32
 have c4 := Tryz.underlying75
 have c5 := zA b4
 have c6 := zA b5
 clear b4 b5
 have HB := zA (Below.refl w.heap.size w)
 unfold impl_below.f at h
 have H := h
 clear h
 obtain ⟨a8, b1⟩ : ∃ y_ : List ByteArray, y_ = (([(⟨#[48]⟩ : ByteArray)] : List ByteArray)) := ⟨_, rfl⟩
 replace H : (some (1, a1, a2, a3, a8)) = some (r1, r2, r3, r4, r5) := zY b1 H
 have b7 := zA b1
 clear b1
 simp only [zU] at H
 obtain ⟨rfl, rfl, rfl, rfl, rfl⟩ := H
 go_enter Tryz.func192, Tryz.ntmps192
 go_wp2_with (first | ((with_reducible refine zd 1 ?_); refine ze 1 32 #[.int .i64 a1, .int .i64 a2, .int .i64 a3, .slice a9 a4.length b0] ?_; intro b9 hg w2 hbox hb; have a0 := zA (hbox); have c7 := zi HB hg; have c8 := zi HB hg; replace HB := zA (below_step (zB) hb); clear hb hbox hg) | ((with_reducible refine zd 2 ?_); refine ze 2 75 #[.int .i64 0, .int .i64 0, .int .i64 0, .int .i64 0, .slice none 0 0] ?_; intro a5 hg w3 hbox hb; have a6 := zA (hbox); have c9 := zi HB hg; have d0 := zi HB hg; replace HB := zh HB hb; have c0 := zA (zL hg (zK a0.out)); have c1 := zA (zJ hg (zK a0.out)); replace a0 := zb a0 hb; clear hb hbox hg) | ((with_reducible refine gate_dst (N := 3) rfl ?_); refine Kd.R_lit Kd.string _ 9 ?hg (N := 3) ?hd (xs := ([(⟨#[48]⟩ : ByteArray)] : List ByteArray)) (inner := [.string (⟨#[48]⟩ : ByteArray)]) (ok := fun _ => True) ?hr ?hp (fun _ hk => hk) trivial (Below.refl _ _) (Nat.le_refl _) (by simp) ?_; (case hd => rfl); (case hg => rfl); (case hr => first | (go_simp; done) | (go_simp; rfl)); (case hp => exact (Reps.one (show Kd.M Kd.string _ _ _ (⟨#[48]⟩ : ByteArray) [.string (⟨#[48]⟩ : ByteArray)] from rfl) (Reps.none _ _))); intro d1 w4 a7 hb hg_ hnew_; clear hg_ hnew_; (first | rw [← b7.out] at a7 | (simp only [Int.reduceToNat] at a7; rw [← b7.out] at a7)); have b8 := zA (Kd.R_lower a7 (below_size (zW HB.out))); replace a0 := zb a0 hb; replace a6 := zb a6 hb; replace HB := zh HB hb; clear hb a7; obtain ⟨b2, b3, c2⟩ := Kd.R_slice b8.out; subst c2; have d2 := c0.out; have d3 := c1.out; obtain ⟨d4, d5, d6, d7, d8, d9, e0, e1⟩ := ze4 a0.out; obtain ⟨e2, e3, e4, e5, e6, e7, e8, e9, f0, f1⟩ := ze5 a6.out))
 refine bodyPost_ret (results_cell_row rfl _ _ a5 75 #[.int .i64 1, .int .i64 a1, .int .i64 a2, .int .i64 a3, .slice b2 a8.length b3] (0, 0) _ rfl (zk5 a6.out) Tryz.underlying75 rfl (by kernel_rfl)) rfl ?_
 exact ⟨_, zE, zR (Kd.R_mono (Kd.R_far (p := ⟨a5, 4, none⟩) (Kd.R_far (p := ⟨a5, 3, none⟩) (Kd.R_far (p := ⟨a5, 2, none⟩) (Kd.R_far (p := ⟨a5, 1, none⟩) (Kd.R_far (p := ⟨a5, 0, none⟩) (Kd.R_far (p := ⟨b9, 3, none⟩) (Kd.R_types (Kd.R_types b8.out a0.out (by decide)) a6.out (by decide)) (fun _ hk => hk.1.2) (.slice b2 a8.length b3)) (fun _ hk => hk.2) (.int .i64 1)) (fun _ hk => hk.2) (.int .i64 a1)) (fun _ hk => hk.2) (.int .i64 a2)) (fun _ hk => hk.2) (.int .i64 a3)) (fun _ hk => hk.2) (.slice b2 a8.length b3)) (fun _ hk => trivial)), zW HB.out⟩
/-! ### impl_caret: function 193 -/
def impl_caret.j0 : Nat → Int → Bool → Int → Int → Int → List ByteArray → Option (Int × Int × Int × List ByteArray)
 | 0, _, _, _, _, _, _ => none
 | k + 1, x1, x5, a1, a0, a2, a3 => if x5 = true then (some (wrap64 (a1 + 1), 0, 0, ([] : List ByteArray))) else (if a0 = 0 then (if x1 = 2 then (some (0, wrap64 (a0 + 1), 0, ([] : List ByteArray))) else (some (0, 0, wrap64 (a2 + 1), ([] : List ByteArray)))) else (some (0, wrap64 (a0 + 1), 0, ([] : List ByteArray))))
def impl_caret.f (k : Nat) (a0 a2 a3 : Int) (a4 : List ByteArray) (a1 : Int) : Option (Int × Int × Int × List ByteArray) := if a0 = 0 then (impl_caret.j0 k a1 (a1 == 1) a0 a2 a3 a4) else (impl_caret.j0 k a1 true a0 a2 a3 a4)
theorem impl_caret.calls (k : Nat) (a5 a4 a6 : Int) (b3 : Option Addr) (b4 : Nat) (a3 : List ByteArray) (a1 r1 r2 r3 : Int) (r4 : List ByteArray) (w : World) (b7 : Kd.C Kd.string w b3 a3.length a3) (b8 : a3.length ≤ b4) (h : impl_caret.f k a5 a4 a6 a3 a1 = some (r1, r2, r3, r4)) :
  Calls Tryz.prog 193 #[.agg #[.int .i64 a5, .int .i64 a4, .int .i64 a6, .slice b3 a3.length b4], .int .i64 a1] w fun e w' => ∃ b9 : Value, e = .returned (.agg #[.int .i64 r1, .int .i64 r2, .int .i64 r3, b9]) ∧ Kd.R Kd.string 9 w' w.heap.size (fun _ => True) b9 r4 ∧ Below w.heap.size w w' := by
 have e6 := Tryz.underlying32
 have e7 := zA b7
 have e8 := zA b8
 clear b7 b8
 have HB := zA (Below.refl w.heap.size w)
 unfold impl_caret.f at h
 have H := h
 clear h
 have b5 := zA H
 clear H
 go_enter Tryz.func193, Tryz.ntmps193
 go_upto_region 1 with (first | ((with_reducible refine zd 2 ?_); refine ze 2 32 #[.int .i64 a5, .int .i64 a4, .int .i64 a6, .slice b3 a3.length b4] ?_; intro c2 hg w4 hbox hb; have a0 := zA (hbox); have e9 := zi HB hg; have f0 := zi HB hg; replace HB := zA (below_step (zB) hb); clear hb hbox hg) | ((with_reducible refine zd 4 ?_); refine ze 4 32 #[.int .i64 0, .int .i64 0, .int .i64 0, .slice none 0 0] ?_; intro b2 hg w5 hbox hb; have a2 := zA (hbox); have f1 := zi HB hg; have f2 := zi HB hg; replace HB := zh HB hb; have a7 := zA (zL hg (zK a0.out)); have a8 := zA (zJ hg (zK a0.out)); replace a0 := zb a0 hb; clear hb hbox hg))
 (try simp only [Act.put, zT])
 go_cut [5] (fun v5 wc => ∃ (kq : Nat) (b6 : Bool), v5 = .bool b6 ∧ Aside0 (impl_caret.j0 kq a1 b6 a5 a4 a6 a3 = some (r1, r2, r3, r4)) ∧ Aside0 (kq ≤ k) ∧ Aside0 (wc.heap[c2]? = some (.cells #[.int .i64 a5, .int .i64 a4, .int .i64 a6, (.slice b3 a3.length b4)] 32 (0, 0))) ∧ Aside0 (wc.heap[b2]? = some (.cells #[.int .i64 0, .int .i64 0, .int .i64 0, (.slice none 0 0)] 32 (0, 0))) ∧ Aside0 (Below w.heap.size w wc))
 case first =>
  have H := b5.out; clear b5; replace H := zI1 H
  rcases H with ⟨c6, H⟩ | ⟨c6, H⟩
  ·have a9 := beq_iff_eq.mpr c6; have c0 := bne_eq_false_iff_eq.mpr c6; clear c6
   (first | rw [a9] | (simp only [i64_w, i32_w]; rw [a9]) | skip)
   have H' := zA H; clear H; have f3 := a7.out; have f4 := a8.out; obtain ⟨c3, c4, c5, c8, d0, d1, d2, d3⟩ := ze4 a0.out
   go_wp2
   go_meet
   case rel => exact ⟨_, ((a1 == 1)), zS, (by first | exact H' | (subst_vars; exact H')), ⟨by first | omega | exact Nat.le_refl _⟩, ⟨zK a0.out⟩, ⟨zK a2.out⟩, ⟨zW HB.out⟩⟩
  have a9 := beq_eq_false_iff_ne.mpr c6; have c0 := bne_iff_ne.mpr c6
  (first | rw [a9] | (simp only [i64_w, i32_w]; rw [a9]) | skip)
  have H' := zA H; clear H; have f5 := a7.out; have f6 := a8.out; obtain ⟨d4, d5, d6, d7, d8, d9, e0, e1⟩ := ze4 a0.out
  go_wp2
  go_meet
  case rel => exact ⟨_, (true), zS, (by first | exact H' | (subst_vars; exact H')), ⟨by first | omega | exact Nat.le_refl _⟩, ⟨zK a0.out⟩, ⟨zK a2.out⟩, ⟨zW HB.out⟩⟩
 case rest =>
  clear b5
  try clear c1
  try clear p2
  try clear c6
  try clear a9
  try clear c0
  try clear c7
  try clear c9
  try clear d4 d5 d6 d7 d8 d9 e0 e1
  try clear c3 c4 c5 c8 d0 d1 d2 d3
  obtain ⟨kq, b6, rfl, HA, f7, a0, a2, HB⟩ := hcut
  cases kq with
  | zero => exact absurd HA.out (by simp [impl_caret.j0])
  | succ f8 =>
   have H := HA.out; clear HA; simp only [impl_caret.j0] at H; replace H := zB0 H
   rcases H with ⟨rfl, H⟩ | ⟨rfl, H⟩
   ·simp only [zU] at H; obtain ⟨rfl, rfl, rfl, rfl⟩ := H; have f9 := a7.out; have g0 := a8.out; obtain ⟨g1, g2, g3, g4, g5, g6, g7, g8⟩ := ze4 a0.out; obtain ⟨g9, h0, h1, h2, h3, h4, h5, h6⟩ := ze4 a2.out
    go_wp2
    refine bodyPost_ret (results_cell_row rfl _ _ b2 32 #[.int .i64 (wrap64 (a5 + 1)), .int .i64 0, .int .i64 0, .slice none 0 0] (0, 0) _ rfl (zk4 a2.out) Tryz.underlying32 rfl (by kernel_rfl)) rfl ?_
    exact ⟨_, zE, by first | exact Kd.R_nil _ _ _ _ _ | exact Kd.N_nil _ _ _ _ _ | exact Kd.V_nil _ _ _ _ _ | exact Kd.Q_nil _ _ _ _ _ | exact Kd.S_nil _ _ _ _ _, zW HB.out⟩
   replace H := zI1 H
   rcases H with ⟨b0, H⟩ | ⟨b0, H⟩
   ·have e2 := beq_iff_eq.mpr b0; have e3 := bne_eq_false_iff_eq.mpr b0; clear b0; replace H := zI1 H
    rcases H with ⟨b1, H⟩ | ⟨b1, H⟩
    ·have e4 := beq_iff_eq.mpr b1; have e5 := bne_eq_false_iff_eq.mpr b1; clear b1; simp only [zU] at H; obtain ⟨rfl, rfl, rfl, rfl⟩ := H; have h7 := a7.out; have h8 := a8.out; obtain ⟨h9, i0, i1, i2, i3, i4, i5, i6⟩ := ze4 a0.out; obtain ⟨i7, i8, i9, j1, j2, j3, j4, j5⟩ := ze4 a2.out
     go_wp2
     refine bodyPost_ret (results_cell_row rfl _ _ b2 32 #[.int .i64 0, .int .i64 (wrap64 (a4 + 1)), .int .i64 0, .slice none 0 0] (0, 0) _ rfl (zk4 a2.out) Tryz.underlying32 rfl (by kernel_rfl)) rfl ?_
     exact ⟨_, zE, by first | exact Kd.R_nil _ _ _ _ _ | exact Kd.N_nil _ _ _ _ _ | exact Kd.V_nil _ _ _ _ _ | exact Kd.Q_nil _ _ _ _ _ | exact Kd.S_nil _ _ _ _ _, zW HB.out⟩
    have e4 := beq_eq_false_iff_ne.mpr b1; have e5 := bne_iff_ne.mpr b1; simp only [zU] at H; obtain ⟨rfl, rfl, rfl, rfl⟩ := H; have j6 := a7.out; have j7 := a8.out; obtain ⟨j8, j9, k0, k1, k2, k3, k4, k5⟩ := ze4 a0.out; obtain ⟨k6, k7, k8, k9, l0, l1, l2, l3⟩ := ze4 a2.out
    go_wp2
    refine bodyPost_ret (results_cell_row rfl _ _ b2 32 #[.int .i64 0, .int .i64 0, .int .i64 (wrap64 (a6 + 1)), .slice none 0 0] (0, 0) _ rfl (zk4 a2.out) Tryz.underlying32 rfl (by kernel_rfl)) rfl ?_
    exact ⟨_, zE, by first | exact Kd.R_nil _ _ _ _ _ | exact Kd.N_nil _ _ _ _ _ | exact Kd.V_nil _ _ _ _ _ | exact Kd.Q_nil _ _ _ _ _ | exact Kd.S_nil _ _ _ _ _, zW HB.out⟩
   have e2 := beq_eq_false_iff_ne.mpr b0; have e3 := bne_iff_ne.mpr b0; simp only [zU] at H; obtain ⟨rfl, rfl, rfl, rfl⟩ := H; have l4 := a7.out; have l5 := a8.out; obtain ⟨l6, l7, l8, l9, m0, m1, m2, m3⟩ := ze4 a0.out; obtain ⟨m4, m5, m6, m7, m8, m9, n0, n1⟩ := ze4 a2.out
   go_wp2
   refine bodyPost_ret (results_cell_row rfl _ _ b2 32 #[.int .i64 0, .int .i64 (wrap64 (a4 + 1)), .int .i64 0, .slice none 0 0] (0, 0) _ rfl (zk4 a2.out) Tryz.underlying32 rfl (by kernel_rfl)) rfl ?_
   exact ⟨_, zE, by first | exact Kd.R_nil _ _ _ _ _ | exact Kd.N_nil _ _ _ _ _ | exact Kd.V_nil _ _ _ _ _ | exact Kd.Q_nil _ _ _ _ _ | exact Kd.S_nil _ _ _ _ _, zW HB.out⟩
/-! ### impl_wordCmps: function 169 -/
def impl_wordCmps.f (k : Nat) (a0 : ByteArray) (a3 a4 a5 : Int) (a6 : List ByteArray) (a2 : Int) : Option ((List (S75))) := (impl_nextOf.f a3 a4 a5 a6 a2).bind fun a1 => (if a0.toList = ([62, 61] : List UInt8) then (some (([(⟨4, (⟨a3, a4, a5, a6⟩ : S32)⟩ : S75)] : List (S75)))) else (if a0.toList = ([60] : List UInt8) then (some (([(⟨1, (⟨a3, a4, a5, a6⟩ : S32)⟩ : S75)] : List (S75)))) else (if a0.toList = ([62] : List UInt8) then (if a2 < 3 then (some (([(⟨4, (⟨a1.1, a1.2.1, a1.2.2.1, a1.2.2.2⟩ : S32)⟩ : S75)] : List (S75)))) else (some (([(⟨3, (⟨a3, a4, a5, a6⟩ : S32)⟩ : S75)] : List (S75))))) else (if a0.toList = ([60, 61] : List UInt8) then (if a2 < 3 then ((impl_below.f a1.1 a1.2.1 a1.2.2.1 a1.2.2.2).bind fun a7 => (some (([(⟨a7.1, (⟨a7.2.1, a7.2.2.1, a7.2.2.2.1, a7.2.2.2.2⟩ : S32)⟩ : S75)] : List (S75))))) else (some (([(⟨2, (⟨a3, a4, a5, a6⟩ : S32)⟩ : S75)] : List (S75))))) else (if a0.toList = ([126] : List UInt8) then ((impl_nextOf.f a3 a4 0 ([] : List ByteArray) (mn a2 2)).bind fun b1 => ((impl_below.f b1.1 b1.2.1 b1.2.2.1 b1.2.2.2).bind fun a8 => (some (([(⟨4, (⟨a3, a4, a5, a6⟩ : S32)⟩ : S75), (⟨a8.1, (⟨a8.2.1, a8.2.2.1, a8.2.2.2.1, a8.2.2.2.2⟩ : S32)⟩ : S75)] : List (S75)))))) else (if a0.toList = ([94] : List UInt8) then ((impl_caret.f k a3 a4 a5 a6 a2).bind fun b2 => ((impl_below.f b2.1 b2.2.1 b2.2.2.1 b2.2.2.2).bind fun a9 => (some (([(⟨4, (⟨a3, a4, a5, a6⟩ : S32)⟩ : S75), (⟨a9.1, (⟨a9.2.1, a9.2.2.1, a9.2.2.2.1, a9.2.2.2.2⟩ : S32)⟩ : S75)] : List (S75)))))) else (if a2 < 3 then ((impl_below.f a1.1 a1.2.1 a1.2.2.1 a1.2.2.2).bind fun b0 => (some (([(⟨4, (⟨a3, a4, a5, a6⟩ : S32)⟩ : S75), (⟨b0.1, (⟨b0.2.1, b0.2.2.1, b0.2.2.2.1, b0.2.2.2.2⟩ : S32)⟩ : S75)] : List (S75))))) else (some (([(⟨0, (⟨a3, a4, a5, a6⟩ : S32)⟩ : S75)] : List (S75)))))))))))
def impl_wordCmps.T18 : Bool × List (List Nat × List Nat) := (true, [([], []), ([], []), ([1], [1]), ([], []), ([3], [3]), ([2, 4], [2, 4]), ([], []), ([6], [6]), ([5, 7], [5, 7]), ([8, 8], [8]), ([0, 9], [0, 9]), ([10, 9, 0, 1, 2, 3, 4, 5, 6, 7, 8, 9, 10], [10])])
def impl_wordCmps.B18 : List Nat := [0, 0, 2, 0, 8, 30, 0, 64, 254, 510, 1023, 2047]
theorem impl_wordCmps.tab18 : rtab .any (opsOf Tryz.f169 18) = impl_wordCmps.T18 := by kernel_rfl
theorem impl_wordCmps.bits18 : waitsOk impl_wordCmps.T18.2 impl_wordCmps.B18 = true := by kernel_rfl
theorem impl_wordCmps.calls (k : Nat) (a0 : ByteArray) (b0 b1 b2 : Int) (b7 : Nat → Prop) (b9 : Option Addr) (b8 : Nat) (a6 : List ByteArray) (a2 : Int) (r : List (S75)) (w : World) (p0 : Kd.V Kd.string 9 w w.heap.size (fun k_ => b7 k_) (.slice b9 a6.length b8) a6) (h : impl_wordCmps.f k a0 b0 b1 b2 a6 a2 = some r) :
  Calls Tryz.prog 169 #[.string a0, .agg #[.int .i64 b0, .int .i64 b1, .int .i64 b2, .slice b9 a6.length b8], .int .i64 a2] w fun e w' => ∃ l3 : Value, e = .returned (l3) ∧ Kd.N k75 75 w' w.heap.size (fun k_ => (b7 k_ ∨ w.heap.size ≤ k_)) l3 r ∧ Below w.heap.size w w' := by
 have t8 := Tryz.underlying32
 have t9 := Tryz.underlying75
 have a4 := zA (show Kd.V Kd.string 9 w w.heap.size (fun k_ => (b7 k_ ∨ w.heap.size ≤ k_)) (.slice b9 a6.length b8) a6 from Kd.V_mono p0 (fun k_ hk => .inl hk))
 have HB := zA (Below.refl w.heap.size w)
 unfold impl_wordCmps.f at h
 have H := h
 clear h
 replace H := Option.bind_eq_some_iff.mp H
 obtain ⟨⟨c1, c2, c3, a9⟩, l4, H⟩ := H
 try dsimp only at H
 have A4 := zA l4
 clear l4
 go_enter Tryz.func169, Tryz.ntmps169
 go_upto_if 18 with (first | ((with_reducible refine zd 4 ?_); refine ze 4 32 #[.int .i64 b0, .int .i64 b1, .int .i64 b2, .slice b9 a6.length b8] ?_; intro b6 hg w6 hbox hb; replace a4 := zA (Kd.V_below (Kd.V_elderB (zV a4.out) b6 (Nat.le_of_eq hg.symm)) hb); have a1 := zA (hbox); have v0 := zi HB hg; have v1 := zi HB hg; replace HB := zA (below_step (zB) hb); clear hb hbox hg; obtain ⟨v2, v3, v4, v5, v6, v7, v8, v9⟩ := ze4 a1.out) | ((with_reducible refine zd 7 ?_); refine ze 7 75 #[.int .i64 0, .int .i64 0, .int .i64 0, .int .i64 0, .slice none 0 0] ?_; intro b5 hg w8 hbox hb; replace a4 := zA (Kd.V_below (Kd.V_elderB (zV a4.out) b5 (Nat.le_of_eq hg.symm)) hb); have a5 := zA (hbox); have x0 := zi HB hg; have x1 := zi HB hg; replace HB := zh HB hb; have p1 := zA (zL hg (zK a1.out)); have p2 := zA (zJ hg (zK a1.out)); replace a1 := zb a1 hb; clear hb hbox hg; have x2 := p2.out; have x3 := p1.out; obtain ⟨x4, x5, x6, x7, x8, x9, y0, y1, y2, y3⟩ := ze5 a5.out; obtain ⟨y4, y5, y6, y7, y8, y9, z0, z1⟩ := ze4 a1.out) | ((with_reducible refine zq 191 ?_); refine zg (some 16) Tryz.func191 #[.agg #[.int .i64 b0, .int .i64 b1, .int .i64 b2, .slice b9 a6.length b8], .int .i64 a2] ?_; (with_reducible refine (impl_nextOf.calls b0 b1 b2 _ _ a6 a2 c1 c2 c3 a9 _ ?s1 ?s2 A4.out).mono ?_); (case s1 => refine (Kd.V_reads' (e := 9) (base := w.heap.size) (ok := fun k_ => (((b7 k_ ∨ w.heap.size ≤ k_) ∧ k_ ≠ b6) ∧ k_ ≠ b5)) (n := a6.length) (c := b8) ?_).2.2; exact (zVt (zv5 a4.out (fun _ hk => hk.2)))); (case s2 => exact (Kd.V_reads' a4.out).2.1); rintro e z2 ⟨z3, rfl, c0, hb⟩; refine ⟨_, rfl, ?_⟩; replace a4 := zA (Kd.V_elder' (zVt (zv5 a4.out (fun _ hk => hk.2))) (Kd.R_base c0) hb); have a7 := zA (Kd.R_lower (Kd.R_newM (M := fun k_ => (w.heap.size ≤ k_)) c0 (below_size (zW HB.out)) (fun k_ h_ => h_)) (below_size (zW HB.out))); replace a1 := zb a1 hb; replace a5 := zA (blk_below (zk5 a5.out) hb); replace HB := zh HB hb; (try clear hb c0)) | ((with_reducible refine zd 9 ?_); refine ze 9 32 #[.int .i64 0, .int .i64 0, .int .i64 0, .slice none 0 0] ?_; intro a8 hg c9 hbox hb; replace a4 := zA (Kd.V_below (Kd.V_elderB (zV a4.out) a8 (Nat.le_of_eq hg.symm)) hb); replace a7 := zr a7 hb; have a3 := zA (hbox); have z4 := zi HB hg; have z5 := zi HB hg; replace HB := zh HB hb; have p3 := zA (zL hg (zK a1.out)); have p4 := zA (zJ hg (zK a1.out)); replace a1 := zb a1 hb; have p5 := zA (zL hg (zK a5.out)); have p6 := zA (zJ hg (zK a5.out)); replace a5 := zb a5 hb; clear hb hbox hg; have z6 := p4.out; have z7 := p3.out; have z8 := p6.out; have z9 := p5.out; obtain ⟨A0, A1, A2, A3, A5, A6, A7, A8⟩ := ze4 a3.out; obtain ⟨b4, b3, p7⟩ := Kd.R_slice a7.out; subst p7))
 (try simp only [Act.put, zT])
 replace H := zI1 H
 rcases H with ⟨c5, H⟩ | ⟨c5, H⟩
 ·have c4 := beq_iff_eq.mpr c5; have c6 := bne_eq_false_iff_eq.mpr c5; clear c5; obtain ⟨p8, j1⟩ : ∃ y_ : List (S75), y_ = (([(⟨4, (⟨b0, b1, b2, a6⟩ : S32)⟩ : S75)] : List (S75))) := ⟨_, rfl⟩; replace H : (some p8) = some r := zY j1 H; have l5 := zA j1; clear j1; obtain rfl := zm H; generalize hw_ : ((((c9.setCell ⟨a8, 0, none⟩ (.int .i64 c1)).setCell ⟨a8, 1, none⟩ (.int .i64 c2)).setCell ⟨a8, 2, none⟩ (.int .i64 c3)).setCell ⟨a8, 3, none⟩ (.slice b4 a9.length b3)) = l6; have hw := hw_.symm; clear hw_; replace a4 : Aside0 (Kd.V Kd.string 9 l6 w.heap.size (fun k_ => (b7 k_ ∨ w.heap.size ≤ k_) ∧ some k_ ≠ (.slice b4 a9.length b3 : Value).ownBlock ∧ k_ ≠ b6 ∧ k_ ≠ b5 ∧ k_ ≠ a8) (.slice b9 a6.length b8) a6) := ⟨(by rw [hw]; exact (zVt (Kd.V_mono (zv4 a4.out (fun _ hk => hk.2)) (fun _ hk => ⟨hk.1.1.1.1, ⟨hk.1.2, ⟨hk.1.1.1.2, ⟨hk.1.1.2, hk.2⟩⟩⟩⟩))))⟩; replace a7 : Aside0 (Kd.R Kd.string 9 l6 w.heap.size (fun k_ => (w.heap.size ≤ k_)) (.slice b4 a9.length b3) a9) := ⟨(by rw [hw]; exact (zR (Kd.R_mono (zr4 a7.out a3.out) (fun _ hk => hk.1))))⟩; replace a1 := zA (zh1 hw (zK a1.out)); replace a5 := zA (zh1 hw (zK a5.out)); replace a3 := zA (zh1 hw (zk4 a3.out)); replace HB := zA (zh2 hw (zW HB.out)); clear hw; obtain ⟨A9, B0, B1, B2, B3, B4, B5, B6, B7, B8⟩ := ze5 a5.out
  (try simp only [c4, c6])
  go_wp2_with (first | ((with_reducible refine gate_dst (N := 21) rfl ?_); refine zNl k75 75 21 (xs := ([(⟨4, (⟨b0, b1, b2, a6⟩ : S32)⟩ : S75)] : List (S75))) (inner := [.int .i64 4, .int .i64 b0, .int .i64 b1, .int .i64 b2, .slice b9 a6.length b8]) (ok := (fun k_ => (b7 k_ ∨ w.heap.size ≤ k_) ∧ some k_ ≠ (.slice b4 a9.length b3 : Value).ownBlock ∧ k_ ≠ b6 ∧ k_ ≠ b5 ∧ k_ ≠ a8)) ((Reps.c5 (show Kd.FK k75 _ _ (⟨4, (⟨b0, b1, b2, a6⟩ : S32)⟩ : S75) [.int .i64 4, .int .i64 b0, .int .i64 b1, .int .i64 b2, .slice b9 a6.length b8] from (k75_mkF _ _ (⟨4, (⟨b0, b1, b2, a6⟩ : S32)⟩ : S75) (Kd.V_reads' (a4.out)).2.1 (Kd.V_F (a4.out)))) (Reps.none _ _))) (fun k_ hk => ⟨(.inr (Nat.le_trans (below_size (zW HB.out)) hk)), Kd.fresh' (Kd.R_lt (zR a7.out)) k_ hk, Kd.freshB (zK a1.out) k_ hk, Kd.freshB (zK a5.out) k_ hk, Kd.freshB (zK a3.out) k_ hk⟩) ?_; intro B9 C0 g5 hb hg_ hnew_; clear hg_ hnew_; (first | rw [← l5.out] at g5 | (simp only [Int.reduceToNat] at g5; rw [← l5.out] at g5)); replace a4 := zA (Kd.V_elder' (zV a4.out) (Kd.N_base g5) hb); replace a7 := zr a7 hb; have p9 := zA (Kd.N_lower g5 (below_size (zW HB.out))); replace a1 := zb a1 hb; replace a5 := zb a5 hb; replace a3 := zb a3 hb; replace HB := zh HB hb; clear hb g5))
  go_ret
  exact ⟨_, zE, zNt (Kd.N_mono p9.out (fun _ hk => hk.1)), zW HB.out⟩
 have c4 := beq_eq_false_iff_ne.mpr c5
 have c6 := bne_iff_ne.mpr c5
 replace H := zI1 H
 rcases H with ⟨g6, H⟩ | ⟨g6, H⟩
 ·have c7 := beq_iff_eq.mpr g6; have c8 := bne_eq_false_iff_eq.mpr g6; clear g6; obtain ⟨q0, j2⟩ : ∃ y_ : List (S75), y_ = (([(⟨1, (⟨b0, b1, b2, a6⟩ : S32)⟩ : S75)] : List (S75))) := ⟨_, rfl⟩; replace H : (some q0) = some r := zY j2 H; have l7 := zA j2; clear j2; obtain rfl := zm H; generalize hw_ : ((((c9.setCell ⟨a8, 0, none⟩ (.int .i64 c1)).setCell ⟨a8, 1, none⟩ (.int .i64 c2)).setCell ⟨a8, 2, none⟩ (.int .i64 c3)).setCell ⟨a8, 3, none⟩ (.slice b4 a9.length b3)) = l8; have hw := hw_.symm; clear hw_; replace a4 : Aside0 (Kd.V Kd.string 9 l8 w.heap.size (fun k_ => (b7 k_ ∨ w.heap.size ≤ k_) ∧ some k_ ≠ (.slice b4 a9.length b3 : Value).ownBlock ∧ k_ ≠ b6 ∧ k_ ≠ b5 ∧ k_ ≠ a8) (.slice b9 a6.length b8) a6) := ⟨(by rw [hw]; exact (zVt (Kd.V_mono (zv4 a4.out (fun _ hk => hk.2)) (fun _ hk => ⟨hk.1.1.1.1, ⟨hk.1.2, ⟨hk.1.1.1.2, ⟨hk.1.1.2, hk.2⟩⟩⟩⟩))))⟩; replace a7 : Aside0 (Kd.R Kd.string 9 l8 w.heap.size (fun k_ => (w.heap.size ≤ k_)) (.slice b4 a9.length b3) a9) := ⟨(by rw [hw]; exact (zR (Kd.R_mono (zr4 a7.out a3.out) (fun _ hk => hk.1))))⟩; replace a1 := zA (zh1 hw (zK a1.out)); replace a5 := zA (zh1 hw (zK a5.out)); replace a3 := zA (zh1 hw (zk4 a3.out)); replace HB := zA (zh2 hw (zW HB.out)); clear hw; obtain ⟨C1, C2, C3, C4, C5, C6, C7, C8⟩ := ze4 a1.out
  (try simp only [c4, c6, c7, c8])
  go_wp2_with (first | ((with_reducible refine gate_dst (N := 26) rfl ?_); refine zNl k75 75 26 (xs := ([(⟨1, (⟨b0, b1, b2, a6⟩ : S32)⟩ : S75)] : List (S75))) (inner := [.int .i64 1, .int .i64 b0, .int .i64 b1, .int .i64 b2, .slice b9 a6.length b8]) (ok := (fun k_ => (b7 k_ ∨ w.heap.size ≤ k_) ∧ some k_ ≠ (.slice b4 a9.length b3 : Value).ownBlock ∧ k_ ≠ b6 ∧ k_ ≠ b5 ∧ k_ ≠ a8)) ((Reps.c5 (show Kd.FK k75 _ _ (⟨1, (⟨b0, b1, b2, a6⟩ : S32)⟩ : S75) [.int .i64 1, .int .i64 b0, .int .i64 b1, .int .i64 b2, .slice b9 a6.length b8] from (k75_mkF _ _ (⟨1, (⟨b0, b1, b2, a6⟩ : S32)⟩ : S75) (Kd.V_reads' (a4.out)).2.1 (Kd.V_F (a4.out)))) (Reps.none _ _))) (fun k_ hk => ⟨(.inr (Nat.le_trans (below_size (zW HB.out)) hk)), Kd.fresh' (Kd.R_lt (zR a7.out)) k_ hk, Kd.freshB (zK a1.out) k_ hk, Kd.freshB (zK a5.out) k_ hk, Kd.freshB (zK a3.out) k_ hk⟩) ?_; intro C9 D0 g7 hb hg_ hnew_; clear hg_ hnew_; (first | rw [← l7.out] at g7 | (simp only [Int.reduceToNat] at g7; rw [← l7.out] at g7)); replace a4 := zA (Kd.V_elder' (zV a4.out) (Kd.N_base g7) hb); replace a7 := zr a7 hb; have q1 := zA (Kd.N_lower g7 (below_size (zW HB.out))); replace a1 := zb a1 hb; replace a5 := zb a5 hb; replace a3 := zb a3 hb; replace HB := zh HB hb; clear hb g7))
  go_ret
  exact ⟨_, zE, zNt (Kd.N_mono q1.out (fun _ hk => hk.1)), zW HB.out⟩
 have c7 := beq_eq_false_iff_ne.mpr g6
 have c8 := bne_iff_ne.mpr g6
 replace H := zI1 H
 rcases H with ⟨g8, H⟩ | ⟨g8, H⟩
 ·have d0 := beq_iff_eq.mpr g8; have d1 := bne_eq_false_iff_eq.mpr g8; clear g8; replace H := zI0 H
  rcases H with ⟨j3, H⟩ | ⟨j3, H⟩
  ·obtain ⟨q2, j4⟩ : ∃ y_ : List (S75), y_ = (([(⟨4, (⟨c1, c2, c3, a9⟩ : S32)⟩ : S75)] : List (S75))) := ⟨_, rfl⟩; replace H : (some q2) = some r := zY j4 H; have l9 := zA j4; clear j4; obtain rfl := zm H; generalize hw_ : ((((c9.setCell ⟨a8, 0, none⟩ (.int .i64 c1)).setCell ⟨a8, 1, none⟩ (.int .i64 c2)).setCell ⟨a8, 2, none⟩ (.int .i64 c3)).setCell ⟨a8, 3, none⟩ (.slice b4 a9.length b3)) = m0; have hw := hw_.symm; clear hw_; replace a4 : Aside0 (Kd.V Kd.string 9 m0 w.heap.size (fun k_ => (b7 k_ ∨ w.heap.size ≤ k_) ∧ some k_ ≠ (.slice b4 a9.length b3 : Value).ownBlock ∧ k_ ≠ b6 ∧ k_ ≠ b5 ∧ k_ ≠ a8) (.slice b9 a6.length b8) a6) := ⟨(by rw [hw]; exact (zVt (Kd.V_mono (zv4 a4.out (fun _ hk => hk.2)) (fun _ hk => ⟨hk.1.1.1.1, ⟨hk.1.2, ⟨hk.1.1.1.2, ⟨hk.1.1.2, hk.2⟩⟩⟩⟩))))⟩; replace a7 : Aside0 (Kd.R Kd.string 9 m0 w.heap.size (fun k_ => (w.heap.size ≤ k_)) (.slice b4 a9.length b3) a9) := ⟨(by rw [hw]; exact (zR (Kd.R_mono (zr4 a7.out a3.out) (fun _ hk => hk.1))))⟩; replace a1 := zA (zh1 hw (zK a1.out)); replace a5 := zA (zh1 hw (zK a5.out)); replace a3 := zA (zh1 hw (zk4 a3.out)); replace HB := zA (zh2 hw (zW HB.out)); clear hw; obtain ⟨D1, D2, D3, D4, D5, D6, D7, D8⟩ := ze4 a3.out
   (try simp only [c4, c6, c7, c8, d0, d1, j3])
   go_wp2_with (first | ((with_reducible refine gate_dst (N := 32) rfl ?_); refine zNl k75 75 32 (xs := ([(⟨4, (⟨c1, c2, c3, a9⟩ : S32)⟩ : S75)] : List (S75))) (inner := [.int .i64 4, .int .i64 c1, .int .i64 c2, .int .i64 c3, .slice b4 a9.length b3]) (ok := (fun k_ => (b7 k_ ∨ w.heap.size ≤ k_) ∧ k_ ≠ b6 ∧ k_ ≠ b5 ∧ k_ ≠ a8)) ((Reps.c5 (show Kd.FK k75 _ _ (⟨4, (⟨c1, c2, c3, a9⟩ : S32)⟩ : S75) [.int .i64 4, .int .i64 c1, .int .i64 c2, .int .i64 c3, .slice b4 a9.length b3] from (k75_mkF _ _ (⟨4, (⟨c1, c2, c3, a9⟩ : S32)⟩ : S75) (Kd.R_reads' (Kd.R_mono (ok' := (fun k_ => (b7 k_ ∨ w.heap.size ≤ k_) ∧ k_ ≠ b6 ∧ k_ ≠ b5 ∧ k_ ≠ a8)) (Kd.R_types (Kd.R_types (Kd.R_types (a7.out) a1.out (by decide)) a5.out (by decide)) a3.out (by decide)) (fun k_ hk => ⟨(.inr (hk.1.1.1)), ⟨hk.1.1.2, ⟨hk.1.2, hk.2⟩⟩⟩))).2.1 (Kd.R_F (Kd.R_mono (ok' := (fun k_ => (b7 k_ ∨ w.heap.size ≤ k_) ∧ k_ ≠ b6 ∧ k_ ≠ b5 ∧ k_ ≠ a8)) (Kd.R_types (Kd.R_types (Kd.R_types (a7.out) a1.out (by decide)) a5.out (by decide)) a3.out (by decide)) (fun k_ hk => ⟨(.inr (hk.1.1.1)), ⟨hk.1.1.2, ⟨hk.1.2, hk.2⟩⟩⟩))))) (Reps.none _ _))) (fun k_ hk => ⟨(.inr (Nat.le_trans (below_size (zW HB.out)) hk)), Kd.freshB (zK a1.out) k_ hk, Kd.freshB (zK a5.out) k_ hk, Kd.freshB (zK a3.out) k_ hk⟩) ?_; intro D9 E0 g9 hb hg_ hnew_; clear hg_ hnew_; (first | rw [← l9.out] at g9 | (simp only [Int.reduceToNat] at g9; rw [← l9.out] at g9)); replace a4 := zA (Kd.V_elder' (zV a4.out) (Kd.N_base g9) hb); have q3 := zA (Kd.N_lower g9 (below_size (zW HB.out))); replace a1 := zb a1 hb; replace a5 := zb a5 hb; replace a3 := zb a3 hb; replace HB := zh HB hb; clear a7; clear hb g9))
   go_ret
   exact ⟨_, zE, zNt (Kd.N_mono q3.out (fun _ hk => hk.1)), zW HB.out⟩
  obtain ⟨q4, j5⟩ : ∃ y_ : List (S75), y_ = (([(⟨3, (⟨b0, b1, b2, a6⟩ : S32)⟩ : S75)] : List (S75))) := ⟨_, rfl⟩; replace H : (some q4) = some r := zY j5 H; have m1 := zA j5; clear j5; obtain rfl := zm H; generalize hw_ : ((((c9.setCell ⟨a8, 0, none⟩ (.int .i64 c1)).setCell ⟨a8, 1, none⟩ (.int .i64 c2)).setCell ⟨a8, 2, none⟩ (.int .i64 c3)).setCell ⟨a8, 3, none⟩ (.slice b4 a9.length b3)) = m2; have hw := hw_.symm; clear hw_; replace a4 : Aside0 (Kd.V Kd.string 9 m2 w.heap.size (fun k_ => (b7 k_ ∨ w.heap.size ≤ k_) ∧ some k_ ≠ (.slice b4 a9.length b3 : Value).ownBlock ∧ k_ ≠ b6 ∧ k_ ≠ b5 ∧ k_ ≠ a8) (.slice b9 a6.length b8) a6) := ⟨(by rw [hw]; exact (zVt (Kd.V_mono (zv4 a4.out (fun _ hk => hk.2)) (fun _ hk => ⟨hk.1.1.1.1, ⟨hk.1.2, ⟨hk.1.1.1.2, ⟨hk.1.1.2, hk.2⟩⟩⟩⟩))))⟩; replace a7 : Aside0 (Kd.R Kd.string 9 m2 w.heap.size (fun k_ => (w.heap.size ≤ k_)) (.slice b4 a9.length b3) a9) := ⟨(by rw [hw]; exact (zR (Kd.R_mono (zr4 a7.out a3.out) (fun _ hk => hk.1))))⟩; replace a1 := zA (zh1 hw (zK a1.out)); replace a5 := zA (zh1 hw (zK a5.out)); replace a3 := zA (zh1 hw (zk4 a3.out)); replace HB := zA (zh2 hw (zW HB.out)); clear hw; obtain ⟨E1, E2, E3, E4, E5, E6, E7, E8⟩ := ze4 a1.out
  (try simp only [c4, c6, c7, c8, d0, d1, j3])
  go_wp2_with (first | ((with_reducible refine gate_dst (N := 35) rfl ?_); refine zNl k75 75 35 (xs := ([(⟨3, (⟨b0, b1, b2, a6⟩ : S32)⟩ : S75)] : List (S75))) (inner := [.int .i64 3, .int .i64 b0, .int .i64 b1, .int .i64 b2, .slice b9 a6.length b8]) (ok := (fun k_ => (b7 k_ ∨ w.heap.size ≤ k_) ∧ some k_ ≠ (.slice b4 a9.length b3 : Value).ownBlock ∧ k_ ≠ b6 ∧ k_ ≠ b5 ∧ k_ ≠ a8)) ((Reps.c5 (show Kd.FK k75 _ _ (⟨3, (⟨b0, b1, b2, a6⟩ : S32)⟩ : S75) [.int .i64 3, .int .i64 b0, .int .i64 b1, .int .i64 b2, .slice b9 a6.length b8] from (k75_mkF _ _ (⟨3, (⟨b0, b1, b2, a6⟩ : S32)⟩ : S75) (Kd.V_reads' (a4.out)).2.1 (Kd.V_F (a4.out)))) (Reps.none _ _))) (fun k_ hk => ⟨(.inr (Nat.le_trans (below_size (zW HB.out)) hk)), Kd.fresh' (Kd.R_lt (zR a7.out)) k_ hk, Kd.freshB (zK a1.out) k_ hk, Kd.freshB (zK a5.out) k_ hk, Kd.freshB (zK a3.out) k_ hk⟩) ?_; intro E9 F0 h0 hb hg_ hnew_; clear hg_ hnew_; (first | rw [← m1.out] at h0 | (simp only [Int.reduceToNat] at h0; rw [← m1.out] at h0)); replace a4 := zA (Kd.V_elder' (zV a4.out) (Kd.N_base h0) hb); replace a7 := zr a7 hb; have q5 := zA (Kd.N_lower h0 (below_size (zW HB.out))); replace a1 := zb a1 hb; replace a5 := zb a5 hb; replace a3 := zb a3 hb; replace HB := zh HB hb; clear hb h0))
  go_ret
  exact ⟨_, zE, zNt (Kd.N_mono q5.out (fun _ hk => hk.1)), zW HB.out⟩
 have d0 := beq_eq_false_iff_ne.mpr g8
 have d1 := bne_iff_ne.mpr g8
 replace H := zI1 H
 rcases H with ⟨h1, H⟩ | ⟨h1, H⟩
 ·have d8 := beq_iff_eq.mpr h1; have d9 := bne_eq_false_iff_eq.mpr h1; clear h1; replace H := zI0 H
  rcases H with ⟨j6, H⟩ | ⟨j6, H⟩
  ·replace H := Option.bind_eq_some_iff.mp H; obtain ⟨⟨e0, e1, e2, e3, e4⟩, m3, H⟩ := H
   try dsimp only at H
   have q6 := zA m3; clear m3; obtain ⟨q7, j7⟩ : ∃ y_ : List (S75), y_ = (([(⟨e0, (⟨e1, e2, e3, e4⟩ : S32)⟩ : S75)] : List (S75))) := ⟨_, rfl⟩; replace H : (some q7) = some r := zY j7 H; have m4 := zA j7; clear j7; obtain rfl := zm H
   (try simp only [c4, c6, c7, c8, d0, d1, d8, d9, j6])
   go_wp2_with (first | ((with_reducible refine zq 192 ?_); refine zg (some 40) Tryz.func192 #[.agg #[.int .i64 c1, .int .i64 c2, .int .i64 c3, .slice b4 a9.length b3]] ?_; (with_reducible refine (impl_below.calls c1 c2 c3 _ _ a9 e0 e1 e2 e3 e4 _ ?s1 ?s2 q6.out).mono ?_); (case s1 => refine (Kd.R_reads' (e := 9) (base := w.heap.size) (ok := fun k_ => ((w.heap.size ≤ k_) ∧ True)) (n := a9.length) (c := b3) ?_).2.2; exact (zR (zr4 a7.out a3.out))); (case s2 => exact (Kd.R_reads' a7.out).2.1); rintro e F1 ⟨F2, rfl, c0, hb⟩; refine ⟨_, rfl, ?_⟩; replace a4 := zA (Kd.V_elder' (zVt (zv4 a4.out (fun _ hk => hk.2))) (Kd.R_base c0) hb); have i4 := zA (Kd.R_lower (Kd.R_new' (Kd.R_newM (M := fun k_ => (w.heap.size ≤ k_)) c0 (below_size (zW HB.out)) (fun k_ h_ => h_)) (Kd.R_lt (zR (zr4 a7.out a3.out)))) (below_size (zW HB.out))); replace a7 := zA (Kd.R_elder' (zR (zr4 a7.out a3.out)) (Kd.R_base c0) hb); replace a1 := zb a1 hb; replace a5 := zb a5 hb; replace a3 := zA (blk_below (zk4 a3.out) hb); replace HB := zh HB hb; (try clear hb c0); obtain ⟨m5, m6, q8⟩ := Kd.R_slice i4.out; subst q8) | ((with_reducible refine gate_dst (N := 41) rfl ?_); refine zNl k75 75 41 (xs := ([(⟨e0, (⟨e1, e2, e3, e4⟩ : S32)⟩ : S75)] : List (S75))) (inner := [.int .i64 e0, .int .i64 e1, .int .i64 e2, .int .i64 e3, .slice m5 e4.length m6]) (ok := (fun k_ => (b7 k_ ∨ w.heap.size ≤ k_) ∧ some k_ ≠ (.slice b4 a9.length b3 : Value).ownBlock ∧ k_ ≠ b6 ∧ k_ ≠ b5 ∧ k_ ≠ a8)) ((Reps.c5 (show Kd.FK k75 _ _ (⟨e0, (⟨e1, e2, e3, e4⟩ : S32)⟩ : S75) [.int .i64 e0, .int .i64 e1, .int .i64 e2, .int .i64 e3, .slice m5 e4.length m6] from (k75_mkF _ _ (⟨e0, (⟨e1, e2, e3, e4⟩ : S32)⟩ : S75) (Kd.R_reads' (Kd.R_mono (ok' := (fun k_ => (b7 k_ ∨ w.heap.size ≤ k_) ∧ some k_ ≠ (.slice b4 a9.length b3 : Value).ownBlock ∧ k_ ≠ b6 ∧ k_ ≠ b5 ∧ k_ ≠ a8)) (Kd.R_types (Kd.R_types (Kd.R_types (i4.out) a1.out (by decide)) a5.out (by decide)) a3.out (by decide)) (fun k_ hk => ⟨(.inr (hk.1.1.1.1.1)), ⟨hk.1.1.1.2, ⟨hk.1.1.2, ⟨hk.1.2, hk.2⟩⟩⟩⟩))).2.1 (Kd.R_F (Kd.R_mono (ok' := (fun k_ => (b7 k_ ∨ w.heap.size ≤ k_) ∧ some k_ ≠ (.slice b4 a9.length b3 : Value).ownBlock ∧ k_ ≠ b6 ∧ k_ ≠ b5 ∧ k_ ≠ a8)) (Kd.R_types (Kd.R_types (Kd.R_types (i4.out) a1.out (by decide)) a5.out (by decide)) a3.out (by decide)) (fun k_ hk => ⟨(.inr (hk.1.1.1.1.1)), ⟨hk.1.1.1.2, ⟨hk.1.1.2, ⟨hk.1.2, hk.2⟩⟩⟩⟩))))) (Reps.none _ _))) (fun k_ hk => ⟨(.inr (Nat.le_trans (below_size (zW HB.out)) hk)), Kd.fresh' (Kd.R_lt (zR a7.out)) k_ hk, Kd.freshB (zK a1.out) k_ hk, Kd.freshB (zK a5.out) k_ hk, Kd.freshB (zK a3.out) k_ hk⟩) ?_; intro F3 F4 h2 hb hg_ hnew_; clear hg_ hnew_; (first | rw [← m4.out] at h2 | (simp only [Int.reduceToNat] at h2; rw [← m4.out] at h2)); replace a4 := zA (Kd.V_elder' (zV a4.out) (Kd.N_base h2) hb); replace a7 := zr a7 hb; have q9 := zA (Kd.N_lower h2 (below_size (zW HB.out))); replace a1 := zb a1 hb; replace a5 := zb a5 hb; replace a3 := zb a3 hb; replace HB := zh HB hb; clear i4; clear hb h2))
   go_ret
   exact ⟨_, zE, zNt (Kd.N_mono q9.out (fun _ hk => hk.1)), zW HB.out⟩
  obtain ⟨r0, j8⟩ : ∃ y_ : List (S75), y_ = (([(⟨2, (⟨b0, b1, b2, a6⟩ : S32)⟩ : S75)] : List (S75))) := ⟨_, rfl⟩; replace H : (some r0) = some r := zY j8 H; have m7 := zA j8; clear j8; obtain rfl := zm H; generalize hw_ : ((((c9.setCell ⟨a8, 0, none⟩ (.int .i64 c1)).setCell ⟨a8, 1, none⟩ (.int .i64 c2)).setCell ⟨a8, 2, none⟩ (.int .i64 c3)).setCell ⟨a8, 3, none⟩ (.slice b4 a9.length b3)) = m8; have hw := hw_.symm; clear hw_; replace a4 : Aside0 (Kd.V Kd.string 9 m8 w.heap.size (fun k_ => (b7 k_ ∨ w.heap.size ≤ k_) ∧ some k_ ≠ (.slice b4 a9.length b3 : Value).ownBlock ∧ k_ ≠ b6 ∧ k_ ≠ b5 ∧ k_ ≠ a8) (.slice b9 a6.length b8) a6) := ⟨(by rw [hw]; exact (zVt (Kd.V_mono (zv4 a4.out (fun _ hk => hk.2)) (fun _ hk => ⟨hk.1.1.1.1, ⟨hk.1.2, ⟨hk.1.1.1.2, ⟨hk.1.1.2, hk.2⟩⟩⟩⟩))))⟩; replace a7 : Aside0 (Kd.R Kd.string 9 m8 w.heap.size (fun k_ => (w.heap.size ≤ k_)) (.slice b4 a9.length b3) a9) := ⟨(by rw [hw]; exact (zR (Kd.R_mono (zr4 a7.out a3.out) (fun _ hk => hk.1))))⟩; replace a1 := zA (zh1 hw (zK a1.out)); replace a5 := zA (zh1 hw (zK a5.out)); replace a3 := zA (zh1 hw (zk4 a3.out)); replace HB := zA (zh2 hw (zW HB.out)); clear hw; obtain ⟨F5, F6, F7, F8, F9, G0, G1, G2⟩ := ze4 a1.out
  (try simp only [c4, c6, c7, c8, d0, d1, d8, d9, j6])
  go_wp2_with (first | ((with_reducible refine gate_dst (N := 44) rfl ?_); refine zNl k75 75 44 (xs := ([(⟨2, (⟨b0, b1, b2, a6⟩ : S32)⟩ : S75)] : List (S75))) (inner := [.int .i64 2, .int .i64 b0, .int .i64 b1, .int .i64 b2, .slice b9 a6.length b8]) (ok := (fun k_ => (b7 k_ ∨ w.heap.size ≤ k_) ∧ some k_ ≠ (.slice b4 a9.length b3 : Value).ownBlock ∧ k_ ≠ b6 ∧ k_ ≠ b5 ∧ k_ ≠ a8)) ((Reps.c5 (show Kd.FK k75 _ _ (⟨2, (⟨b0, b1, b2, a6⟩ : S32)⟩ : S75) [.int .i64 2, .int .i64 b0, .int .i64 b1, .int .i64 b2, .slice b9 a6.length b8] from (k75_mkF _ _ (⟨2, (⟨b0, b1, b2, a6⟩ : S32)⟩ : S75) (Kd.V_reads' (a4.out)).2.1 (Kd.V_F (a4.out)))) (Reps.none _ _))) (fun k_ hk => ⟨(.inr (Nat.le_trans (below_size (zW HB.out)) hk)), Kd.fresh' (Kd.R_lt (zR a7.out)) k_ hk, Kd.freshB (zK a1.out) k_ hk, Kd.freshB (zK a5.out) k_ hk, Kd.freshB (zK a3.out) k_ hk⟩) ?_; intro G3 G4 h3 hb hg_ hnew_; clear hg_ hnew_; (first | rw [← m7.out] at h3 | (simp only [Int.reduceToNat] at h3; rw [← m7.out] at h3)); replace a4 := zA (Kd.V_elder' (zV a4.out) (Kd.N_base h3) hb); replace a7 := zr a7 hb; have r1 := zA (Kd.N_lower h3 (below_size (zW HB.out))); replace a1 := zb a1 hb; replace a5 := zb a5 hb; replace a3 := zb a3 hb; replace HB := zh HB hb; clear hb h3))
  go_ret
  exact ⟨_, zE, zNt (Kd.N_mono r1.out (fun _ hk => hk.1)), zW HB.out⟩
 have d8 := beq_eq_false_iff_ne.mpr h1
 have d9 := bne_iff_ne.mpr h1
 replace H := zI1 H
 rcases H with ⟨h4, H⟩ | ⟨h4, H⟩
 ·have i1 := beq_iff_eq.mpr h4; have i2 := bne_eq_false_iff_eq.mpr h4; clear h4; obtain ⟨h5, e5⟩ : ∃ j_ : Int, (mn a2 2) = j_ := ⟨_, rfl⟩
  replace H : ((impl_nextOf.f b0 b1 0 ([] : List ByteArray) (h5)).bind fun i5 => ((impl_below.f i5.1 i5.2.1 i5.2.2.1 i5.2.2.2).bind fun i3 => (some (([(⟨4, (⟨b0, b1, b2, a6⟩ : S32)⟩ : S75), (⟨i3.1, (⟨i3.2.1, i3.2.2.1, i3.2.2.2.1, i3.2.2.2.2⟩ : S32)⟩ : S75)] : List (S75)))))) = some r := by first | (rw [e5] at H; exact H) | (simp only [e5] at H ⊢; exact H)
  (try rw [e5] at A4)
  (try (have hji109h : h5 ≤ 2 := by (rw [← e5]; unfold mn; (repeat' split) <;> omega)))
  (try (have hji109g : h5 ≤ 64 := by omega))
  have G5 : (if 2 < a2 then 2 else a2) = h5 := e5; replace H := Option.bind_eq_some_iff.mp H; obtain ⟨⟨j9, k0, k1, d2⟩, m9, H⟩ := H
  try dsimp only at H
  have r2 := zA m9; clear m9; replace H := Option.bind_eq_some_iff.mp H; obtain ⟨⟨e6, e7, e8, e9, f0⟩, n0, H⟩ := H
  try dsimp only at H
  have r3 := zA n0; clear n0; obtain ⟨r4, k2⟩ : ∃ y_ : List (S75), y_ = (([(⟨4, (⟨b0, b1, b2, a6⟩ : S32)⟩ : S75), (⟨e6, (⟨e7, e8, e9, f0⟩ : S32)⟩ : S75)] : List (S75))) := ⟨_, rfl⟩; replace H : (some r4) = some r := zY k2 H; have n1 := zA k2; clear k2; obtain rfl := zm H
  (try simp only [c4, c6, c7, c8, d0, d1, d8, d9, i1, i2])
  try go_wp2
  generalize hW_ : ((((c9.setCell ⟨a8, 0, none⟩ (.int .i64 c1)).setCell ⟨a8, 1, none⟩ (.int .i64 c2)).setCell ⟨a8, 2, none⟩ (.int .i64 c3)).setCell ⟨a8, 3, none⟩ (.slice b4 a9.length b3)) = k3; replace a4 : Aside0 (Kd.V Kd.string 9 k3 w.heap.size (fun k_ => (b7 k_ ∨ w.heap.size ≤ k_) ∧ some k_ ≠ (.slice b4 a9.length b3 : Value).ownBlock ∧ k_ ≠ b6 ∧ k_ ≠ b5 ∧ k_ ≠ a8) (.slice b9 a6.length b8) a6) := ⟨by subst hW_; exact zVt (Kd.V_mono (zv4 a4.out (fun _ hk => hk.2)) (fun _ hk => ⟨hk.1.1.1.1, ⟨hk.1.2, ⟨hk.1.1.1.2, ⟨hk.1.1.2, hk.2⟩⟩⟩⟩))⟩; replace a7 : Aside0 (Kd.R Kd.string 9 k3 w.heap.size (fun k_ => (w.heap.size ≤ k_)) (.slice b4 a9.length b3) a9) := ⟨by subst hW_; exact zR (Kd.R_mono (zr4 a7.out a3.out) (fun _ hk => hk.1))⟩; replace a1 := zA (zh1 hW_.symm (zK a1.out)); replace a5 := zA (zh1 hW_.symm (zK a5.out)); replace a3 := zA (zh1 hW_.symm (zk4 a3.out)); replace HB := zA (zh2 hW_.symm (zW HB.out)); clear hW_; replace a4 := zA (Kd.V_drew a4.out); replace a7 := zA (Kd.R_drew a7.out); replace a1 := zA (blk_drew a1.out); replace a5 := zA (blk_drew a5.out); replace a3 := zA (blk_drew a3.out); replace HB := zA (below_drew1 HB.out)
  refine start_ (n := 12) (S := fun w' => w'.cell? ⟨b5, 0, none⟩ = some (.int .i64 4) ∧ w'.cell? ⟨b5, 1, none⟩ = some (.int .i64 b0) ∧ w'.cell? ⟨b5, 2, none⟩ = some (.int .i64 b1) ∧ w'.cell? ⟨b5, 3, none⟩ = some (.int .i64 b2) ∧ w'.cell? ⟨b5, 4, none⟩ = some (.slice b9 a6.length b8) ∧ w'.cell? ⟨b6, 0, none⟩ = some (.int .i64 b0) ∧ w'.cell? ⟨b6, 1, none⟩ = some (.int .i64 b1) ∧ w'.cell? ⟨b6, 2, none⟩ = some (.int .i64 b2) ∧ w'.cell? ⟨b6, 3, none⟩ = some (.slice b9 a6.length b8)) (ds := []) (Array.replicate 12 false) (by kernel_rfl) rfl rfl zO fun hHeld => ?_; refine with_tabW impl_wordCmps.tab18 impl_wordCmps.bits18 (fun HT_ HW_ => ?_)
  generalize k3.drew = G6 at a4 a7 a1 a5 a3 HB hHeld ⊢; refine zp 1 48 ?_; refine zp 3 50 ?_; refine zp 6 53 ?_; refine zp 7 54 ?_; refine zt 0 47 ?_; refine zt 2 49 ?_; refine zt 4 51 ?_; refine zp 5 52 ?_
  refine zo 8 (some 55) fun K hK => ?_
  refine goes_ Tryz.func191 (by kernel_rfl) rfl #[.agg #[.int .i64 b0, .int .i64 b1, .int .i64 0, .slice none 0 0], .int .i64 h5] (by rfl) rfl rfl (by (try simp only [List.map_toArray, List.map_cons, List.map_nil]); first | done | (simp only [e5]; rfl) | rfl | (simp only [List.length_drop, List.length_take]; rfl)) ?_
  refine (impl_nextOf.calls b0 b1 0 _ _ ([] : List ByteArray) h5 j9 k0 k1 d2 _ ?s1 ?s2 r2.out).mono ?_
  (case s1 => exact Kd.C_nil _ _)
  (case s2 => exact Nat.le_refl _)
  rintro e G7 ⟨G8, rfl, c0, hb⟩
  refine ⟨_, rfl, ?_⟩
  replace a4 := zA (Kd.V_elder' (zV a4.out) (Kd.R_base c0) hb); have d3 := zA (Kd.R_lower (Kd.R_new' (Kd.R_newM (M := fun k_ => (w.heap.size ≤ k_)) c0 (below_size (zW HB.out)) (fun k_ h_ => h_)) (Kd.R_lt (zR a7.out))) (below_size (zW HB.out))); replace a7 := zA (Kd.R_elder' (zR a7.out) (Kd.R_base c0) hb); replace a1 := zb a1 hb; replace a5 := zb a5 hb; replace a3 := zb a3 hb; replace HB := zh HB hb
  (try clear hb c0)
  obtain ⟨f1, f2, n2⟩ := Kd.R_slice d3.out
  (first | subst n2 | (injection n2 with f1_ f2_ f3_; have d4 := f1_.symm; have d5 := f3_.symm; clear f1_ f2_ f3_; subst d4; subst d5))
  refine hK.out _ _ zO fun hHeld => ?_
  clear hK K; refine zn ?_
  refine zo 9 (some 56) fun K hK => ?_
  refine goes_ Tryz.func192 (by kernel_rfl) rfl #[.agg #[.int .i64 j9, .int .i64 k0, .int .i64 k1, .slice f1 d2.length f2]] (by rfl) rfl rfl zM ?_
  with_reducible refine (impl_below.calls j9 k0 k1 _ _ d2 e6 e7 e8 e9 f0 _ ?s1 ?s2 r3.out).mono ?_
  (case s1 => repeat (first | exact (Kd.R_reads' d3.out).2.2 | (with_reducible refine Kd.C_alloc ?_ _) | (with_reducible refine Kd.C_drewN ?_ _) | (with_reducible refine Kd.C_drew ?_)))
  (case s2 => exact (Kd.R_reads' d3.out).2.1)
  rintro e r5 ⟨G9, rfl, c0, hb⟩
  refine ⟨_, rfl, ?_⟩
  replace a4 := zA (Kd.V_elder' (zV a4.out) (Kd.R_base c0) hb); have i6 := zA (Kd.R_lower (Kd.R_new' (Kd.R_new' (Kd.R_newM (M := fun k_ => (w.heap.size ≤ k_)) c0 (below_size (zW HB.out)) (fun k_ h_ => h_)) (Kd.R_lt (zR a7.out))) (Kd.R_lt (zR d3.out))) (below_size (zW HB.out))); replace a7 := zA (Kd.R_elder' (zR a7.out) (Kd.R_base c0) hb); replace d3 := zA (Kd.R_elder' (zR d3.out) (Kd.R_base c0) hb); replace a1 := zb a1 hb; replace a5 := zb a5 hb; replace a3 := zb a3 hb; replace HB := zh HB hb
  (try clear hb c0)
  obtain ⟨n3, n4, n5⟩ := Kd.R_slice i6.out
  (first | subst n5 | (injection n5 with f1_ f2_ f3_; have d4 := f1_.symm; have d5 := f3_.symm; clear f1_ f2_ f3_; subst d4; subst d5))
  refine hK.out _ _ zO fun hHeld => ?_
  clear hK K; refine zn ?_
  refine zo 10 (some 57) fun K hK => ?_
  refine Kd.N_lit_step k75 _ 75 ?hg (N' := 57) ?hd (xs := ([(⟨4, (⟨b0, b1, b2, a6⟩ : S32)⟩ : S75), (⟨e6, (⟨e7, e8, e9, f0⟩ : S32)⟩ : S75)] : List (S75))) (inner := [.int .i64 4, .int .i64 b0, .int .i64 b1, .int .i64 b2, .slice b9 a6.length b8, .int .i64 e6, .int .i64 e7, .int .i64 e8, .int .i64 e9, .slice n3 f0.length n4]) (ok := (fun k_ => (b7 k_ ∨ w.heap.size ≤ k_) ∧ some k_ ≠ (.slice b4 a9.length b3 : Value).ownBlock ∧ some k_ ≠ (.slice f1 d2.length f2 : Value).ownBlock ∧ k_ ≠ b6 ∧ k_ ≠ b5 ∧ k_ ≠ a8)) ?hr ?hp (fun _ hk => hk) ((show ∀ k_, r5.heap.size ≤ k_ → (fun k_ => (b7 k_ ∨ w.heap.size ≤ k_) ∧ some k_ ≠ (.slice b4 a9.length b3 : Value).ownBlock ∧ some k_ ≠ (.slice f1 d2.length f2 : Value).ownBlock ∧ k_ ≠ b6 ∧ k_ ≠ b5 ∧ k_ ≠ a8) k_ from fun k_ hk => ⟨(.inr (Nat.le_trans (below_size (zW HB.out)) hk)), Kd.fresh' (Kd.R_lt (zR a7.out)) k_ hk, Kd.fresh' (Kd.R_lt (zR d3.out)) k_ hk, Kd.freshB (zK a1.out) k_ hk, Kd.freshB (zK a5.out) k_ hk, Kd.freshB (zK a3.out) k_ hk⟩) _ (Nat.le_refl _)) (Below.refl _ _) (Nat.le_refl _) (by simp) ?_; (case hd => rfl); (case hg => rfl); (case hr => first | (go_simp; done) | (go_simp; rfl)); (case hp => exact (Reps.c5 (show Kd.FK k75 _ _ (⟨4, (⟨b0, b1, b2, a6⟩ : S32)⟩ : S75) [.int .i64 4, .int .i64 b0, .int .i64 b1, .int .i64 b2, .slice b9 a6.length b8] from (k75_mkF _ _ (⟨4, (⟨b0, b1, b2, a6⟩ : S32)⟩ : S75) (Kd.V_reads' (Kd.V_mono (ok' := (fun k_ => (b7 k_ ∨ w.heap.size ≤ k_) ∧ some k_ ≠ (.slice b4 a9.length b3 : Value).ownBlock ∧ some k_ ≠ (.slice f1 d2.length f2 : Value).ownBlock ∧ k_ ≠ b6 ∧ k_ ≠ b5 ∧ k_ ≠ a8)) (a4.out) (fun k_ hk => ⟨hk.1.1.1, ⟨hk.1.1.2.1, ⟨hk.1.2, ⟨hk.1.1.2.2.1, ⟨hk.1.1.2.2.2.1, hk.1.1.2.2.2.2⟩⟩⟩⟩⟩))).2.1 (Kd.V_F (Kd.V_mono (ok' := (fun k_ => (b7 k_ ∨ w.heap.size ≤ k_) ∧ some k_ ≠ (.slice b4 a9.length b3 : Value).ownBlock ∧ some k_ ≠ (.slice f1 d2.length f2 : Value).ownBlock ∧ k_ ≠ b6 ∧ k_ ≠ b5 ∧ k_ ≠ a8)) (a4.out) (fun k_ hk => ⟨hk.1.1.1, ⟨hk.1.1.2.1, ⟨hk.1.2, ⟨hk.1.1.2.2.1, ⟨hk.1.1.2.2.2.1, hk.1.1.2.2.2.2⟩⟩⟩⟩⟩))))) (Reps.c5 (show Kd.FK k75 _ _ (⟨e6, (⟨e7, e8, e9, f0⟩ : S32)⟩ : S75) [.int .i64 e6, .int .i64 e7, .int .i64 e8, .int .i64 e9, .slice n3 f0.length n4] from (k75_mkF _ _ (⟨e6, (⟨e7, e8, e9, f0⟩ : S32)⟩ : S75) (Kd.R_reads' (Kd.R_mono (ok' := (fun k_ => (b7 k_ ∨ w.heap.size ≤ k_) ∧ some k_ ≠ (.slice b4 a9.length b3 : Value).ownBlock ∧ some k_ ≠ (.slice f1 d2.length f2 : Value).ownBlock ∧ k_ ≠ b6 ∧ k_ ≠ b5 ∧ k_ ≠ a8)) (Kd.R_types (Kd.R_types (Kd.R_types (i6.out) a1.out (by decide)) a5.out (by decide)) a3.out (by decide)) (fun k_ hk => ⟨(.inr (hk.1.1.1.1.1.1)), ⟨hk.1.1.1.1.2, ⟨hk.1.1.1.2, ⟨hk.1.1.2, ⟨hk.1.2, hk.2⟩⟩⟩⟩⟩))).2.1 (Kd.R_F (Kd.R_mono (ok' := (fun k_ => (b7 k_ ∨ w.heap.size ≤ k_) ∧ some k_ ≠ (.slice b4 a9.length b3 : Value).ownBlock ∧ some k_ ≠ (.slice f1 d2.length f2 : Value).ownBlock ∧ k_ ≠ b6 ∧ k_ ≠ b5 ∧ k_ ≠ a8)) (Kd.R_types (Kd.R_types (Kd.R_types (i6.out) a1.out (by decide)) a5.out (by decide)) a3.out (by decide)) (fun k_ hk => ⟨(.inr (hk.1.1.1.1.1.1)), ⟨hk.1.1.1.1.2, ⟨hk.1.1.1.2, ⟨hk.1.1.2, ⟨hk.1.2, hk.2⟩⟩⟩⟩⟩))))) (Reps.none _ _))))
  intro I0 I1 h6 hb hg_ hnew_
  clear hg_ hnew_
  (first | rw [← n1.out] at h6 | (simp only [Int.reduceToNat] at h6; rw [← n1.out] at h6))
  replace a4 := zA (Kd.V_elder' (zV a4.out) (Kd.N_base h6) hb); replace a7 := zr a7 hb; replace d3 := zr d3 hb; have r6 := zA (Kd.N_lower h6 (below_size (zW HB.out))); replace a1 := zb a1 hb; replace a5 := zb a5 hb; replace a3 := zb a3 hb; replace HB := zh HB hb; clear i6; clear hb h6
  refine hK.out _ _ zO fun hHeld => ?_
  clear hK K; refine zn ?_; refine zp 11 6 ?_
  refine done_ (done_of HT_.out (by kernel_rfl)) ?_
  try go_wp2
  go_ret
  exact ⟨_, by first | rfl | (simp [errW_none, errW_some] <;> rfl) | (simp only [← e5]; first | rfl | (simp [errW_none, errW_some] <;> rfl)) | (simp [*, errW_none, errW_some] <;> rfl), zNt (Kd.N_mono r6.out (fun _ hk => hk.1)), zW HB.out⟩
 have i1 := beq_eq_false_iff_ne.mpr h4
 have i2 := bne_iff_ne.mpr h4
 replace H := zI1 H
 rcases H with ⟨h7, H⟩ | ⟨h7, H⟩
 ·have i7 := beq_iff_eq.mpr h7; have i8 := bne_eq_false_iff_eq.mpr h7; clear h7; replace H := Option.bind_eq_some_iff.mp H; obtain ⟨⟨k4, k5, k6, d6⟩, n6, H⟩ := H
  try dsimp only at H
  have r7 := zA n6; clear n6; replace H := Option.bind_eq_some_iff.mp H; obtain ⟨⟨f3, f4, f5, f6, f7⟩, n7, H⟩ := H
  try dsimp only at H
  have r8 := zA n7; clear n7; obtain ⟨r9, k7⟩ : ∃ y_ : List (S75), y_ = (([(⟨4, (⟨b0, b1, b2, a6⟩ : S32)⟩ : S75), (⟨f3, (⟨f4, f5, f6, f7⟩ : S32)⟩ : S75)] : List (S75))) := ⟨_, rfl⟩; replace H : (some r9) = some r := zY k7 H; have n8 := zA k7; clear k7; obtain rfl := zm H
  (try simp only [c4, c6, c7, c8, d0, d1, d8, d9, i1, i2, i7, i8])
  try go_wp2
  generalize hW_ : ((((c9.setCell ⟨a8, 0, none⟩ (.int .i64 c1)).setCell ⟨a8, 1, none⟩ (.int .i64 c2)).setCell ⟨a8, 2, none⟩ (.int .i64 c3)).setCell ⟨a8, 3, none⟩ (.slice b4 a9.length b3)) = k8; replace a4 : Aside0 (Kd.V Kd.string 9 k8 w.heap.size (fun k_ => (b7 k_ ∨ w.heap.size ≤ k_) ∧ some k_ ≠ (.slice b4 a9.length b3 : Value).ownBlock ∧ k_ ≠ b6 ∧ k_ ≠ b5 ∧ k_ ≠ a8) (.slice b9 a6.length b8) a6) := ⟨by subst hW_; exact zVt (Kd.V_mono (zv4 a4.out (fun _ hk => hk.2)) (fun _ hk => ⟨hk.1.1.1.1, ⟨hk.1.2, ⟨hk.1.1.1.2, ⟨hk.1.1.2, hk.2⟩⟩⟩⟩))⟩; replace a7 : Aside0 (Kd.R Kd.string 9 k8 w.heap.size (fun k_ => (w.heap.size ≤ k_)) (.slice b4 a9.length b3) a9) := ⟨by subst hW_; exact zR (Kd.R_mono (zr4 a7.out a3.out) (fun _ hk => hk.1))⟩; replace a1 := zA (zh1 hW_.symm (zK a1.out)); replace a5 := zA (zh1 hW_.symm (zK a5.out)); replace a3 := zA (zh1 hW_.symm (zk4 a3.out)); replace HB := zA (zh2 hW_.symm (zW HB.out)); clear hW_; replace a4 := zA (Kd.V_drew a4.out); replace a7 := zA (Kd.R_drew a7.out); replace a1 := zA (blk_drew a1.out); replace a5 := zA (blk_drew a5.out); replace a3 := zA (blk_drew a3.out); replace HB := zA (below_drew1 HB.out)
  refine start_ (n := 7) (S := fun w' => w'.cell? ⟨b5, 0, none⟩ = some (.int .i64 4) ∧ w'.cell? ⟨b5, 1, none⟩ = some (.int .i64 b0) ∧ w'.cell? ⟨b5, 2, none⟩ = some (.int .i64 b1) ∧ w'.cell? ⟨b5, 3, none⟩ = some (.int .i64 b2) ∧ w'.cell? ⟨b5, 4, none⟩ = some (.slice b9 a6.length b8) ∧ w'.cell? ⟨b6, 0, none⟩ = some (.int .i64 b0) ∧ w'.cell? ⟨b6, 1, none⟩ = some (.int .i64 b1) ∧ w'.cell? ⟨b6, 2, none⟩ = some (.int .i64 b2) ∧ w'.cell? ⟨b6, 3, none⟩ = some (.slice b9 a6.length b8)) (ds := []) (Array.replicate 7 false) (by kernel_rfl) rfl rfl zO fun hHeld => ?_
  generalize k8.drew = I2 at a4 a7 a1 a5 a3 HB hHeld ⊢; refine zp 2 62 ?_; refine zt 0 60 ?_; refine zt 1 61 ?_
  refine zo 3 (some 63) fun K hK => ?_
  refine goes_ Tryz.func193 (by kernel_rfl) rfl #[.agg #[.int .i64 b0, .int .i64 b1, .int .i64 b2, .slice b9 a6.length b8], .int .i64 a2] (by rfl) rfl rfl zM ?_
  with_reducible refine (impl_caret.calls k b0 b1 b2 _ _ a6 a2 k4 k5 k6 d6 _ ?s1 ?s2 r7.out).mono ?_
  (case s1 => repeat (first | exact (Kd.V_reads' a4.out).2.2 | (with_reducible refine Kd.C_alloc ?_ _) | (with_reducible refine Kd.C_drewN ?_ _) | (with_reducible refine Kd.C_drew ?_)))
  (case s2 => exact (Kd.V_reads' a4.out).2.1)
  rintro e I3 ⟨I4, rfl, c0, hb⟩
  refine ⟨_, rfl, ?_⟩
  replace a4 := zA (Kd.V_elder' (zV a4.out) (Kd.R_base c0) hb); have d7 := zA (Kd.R_lower (Kd.R_new' (Kd.R_newM (M := fun k_ => (w.heap.size ≤ k_)) c0 (below_size (zW HB.out)) (fun k_ h_ => h_)) (Kd.R_lt (zR a7.out))) (below_size (zW HB.out))); replace a7 := zA (Kd.R_elder' (zR a7.out) (Kd.R_base c0) hb); replace a1 := zb a1 hb; replace a5 := zb a5 hb; replace a3 := zb a3 hb; replace HB := zh HB hb
  (try clear hb c0)
  obtain ⟨f8, f9, n9⟩ := Kd.R_slice d7.out
  (first | subst n9 | (injection n9 with f1_ f2_ f3_; have d4 := f1_.symm; have d5 := f3_.symm; clear f1_ f2_ f3_; subst d4; subst d5))
  refine hK.out _ _ zO fun hHeld => ?_
  clear hK K; refine zn ?_
  refine zo 4 (some 64) fun K hK => ?_
  refine goes_ Tryz.func192 (by kernel_rfl) rfl #[.agg #[.int .i64 k4, .int .i64 k5, .int .i64 k6, .slice f8 d6.length f9]] (by rfl) rfl rfl zM ?_
  with_reducible refine (impl_below.calls k4 k5 k6 _ _ d6 f3 f4 f5 f6 f7 _ ?s1 ?s2 r8.out).mono ?_
  (case s1 => repeat (first | exact (Kd.R_reads' d7.out).2.2 | (with_reducible refine Kd.C_alloc ?_ _) | (with_reducible refine Kd.C_drewN ?_ _) | (with_reducible refine Kd.C_drew ?_)))
  (case s2 => exact (Kd.R_reads' d7.out).2.1)
  rintro e t0 ⟨I5, rfl, c0, hb⟩
  refine ⟨_, rfl, ?_⟩
  replace a4 := zA (Kd.V_elder' (zV a4.out) (Kd.R_base c0) hb); have i9 := zA (Kd.R_lower (Kd.R_new' (Kd.R_new' (Kd.R_newM (M := fun k_ => (w.heap.size ≤ k_)) c0 (below_size (zW HB.out)) (fun k_ h_ => h_)) (Kd.R_lt (zR a7.out))) (Kd.R_lt (zR d7.out))) (below_size (zW HB.out))); replace a7 := zA (Kd.R_elder' (zR a7.out) (Kd.R_base c0) hb); replace d7 := zA (Kd.R_elder' (zR d7.out) (Kd.R_base c0) hb); replace a1 := zb a1 hb; replace a5 := zb a5 hb; replace a3 := zb a3 hb; replace HB := zh HB hb
  (try clear hb c0)
  obtain ⟨o0, o1, o2⟩ := Kd.R_slice i9.out
  (first | subst o2 | (injection o2 with f1_ f2_ f3_; have d4 := f1_.symm; have d5 := f3_.symm; clear f1_ f2_ f3_; subst d4; subst d5))
  refine hK.out _ _ zO fun hHeld => ?_
  clear hK K; refine zn ?_
  refine zo 5 (some 65) fun K hK => ?_
  refine Kd.N_lit_step k75 _ 75 ?hg (N' := 65) ?hd (xs := ([(⟨4, (⟨b0, b1, b2, a6⟩ : S32)⟩ : S75), (⟨f3, (⟨f4, f5, f6, f7⟩ : S32)⟩ : S75)] : List (S75))) (inner := [.int .i64 4, .int .i64 b0, .int .i64 b1, .int .i64 b2, .slice b9 a6.length b8, .int .i64 f3, .int .i64 f4, .int .i64 f5, .int .i64 f6, .slice o0 f7.length o1]) (ok := (fun k_ => (b7 k_ ∨ w.heap.size ≤ k_) ∧ some k_ ≠ (.slice b4 a9.length b3 : Value).ownBlock ∧ some k_ ≠ (.slice f8 d6.length f9 : Value).ownBlock ∧ k_ ≠ b6 ∧ k_ ≠ b5 ∧ k_ ≠ a8)) ?hr ?hp (fun _ hk => hk) ((show ∀ k_, t0.heap.size ≤ k_ → (fun k_ => (b7 k_ ∨ w.heap.size ≤ k_) ∧ some k_ ≠ (.slice b4 a9.length b3 : Value).ownBlock ∧ some k_ ≠ (.slice f8 d6.length f9 : Value).ownBlock ∧ k_ ≠ b6 ∧ k_ ≠ b5 ∧ k_ ≠ a8) k_ from fun k_ hk => ⟨(.inr (Nat.le_trans (below_size (zW HB.out)) hk)), Kd.fresh' (Kd.R_lt (zR a7.out)) k_ hk, Kd.fresh' (Kd.R_lt (zR d7.out)) k_ hk, Kd.freshB (zK a1.out) k_ hk, Kd.freshB (zK a5.out) k_ hk, Kd.freshB (zK a3.out) k_ hk⟩) _ (Nat.le_refl _)) (Below.refl _ _) (Nat.le_refl _) (by simp) ?_; (case hd => rfl); (case hg => rfl); (case hr => first | (go_simp; done) | (go_simp; rfl)); (case hp => exact (Reps.c5 (show Kd.FK k75 _ _ (⟨4, (⟨b0, b1, b2, a6⟩ : S32)⟩ : S75) [.int .i64 4, .int .i64 b0, .int .i64 b1, .int .i64 b2, .slice b9 a6.length b8] from (k75_mkF _ _ (⟨4, (⟨b0, b1, b2, a6⟩ : S32)⟩ : S75) (Kd.V_reads' (Kd.V_mono (ok' := (fun k_ => (b7 k_ ∨ w.heap.size ≤ k_) ∧ some k_ ≠ (.slice b4 a9.length b3 : Value).ownBlock ∧ some k_ ≠ (.slice f8 d6.length f9 : Value).ownBlock ∧ k_ ≠ b6 ∧ k_ ≠ b5 ∧ k_ ≠ a8)) (a4.out) (fun k_ hk => ⟨hk.1.1.1, ⟨hk.1.1.2.1, ⟨hk.1.2, ⟨hk.1.1.2.2.1, ⟨hk.1.1.2.2.2.1, hk.1.1.2.2.2.2⟩⟩⟩⟩⟩))).2.1 (Kd.V_F (Kd.V_mono (ok' := (fun k_ => (b7 k_ ∨ w.heap.size ≤ k_) ∧ some k_ ≠ (.slice b4 a9.length b3 : Value).ownBlock ∧ some k_ ≠ (.slice f8 d6.length f9 : Value).ownBlock ∧ k_ ≠ b6 ∧ k_ ≠ b5 ∧ k_ ≠ a8)) (a4.out) (fun k_ hk => ⟨hk.1.1.1, ⟨hk.1.1.2.1, ⟨hk.1.2, ⟨hk.1.1.2.2.1, ⟨hk.1.1.2.2.2.1, hk.1.1.2.2.2.2⟩⟩⟩⟩⟩))))) (Reps.c5 (show Kd.FK k75 _ _ (⟨f3, (⟨f4, f5, f6, f7⟩ : S32)⟩ : S75) [.int .i64 f3, .int .i64 f4, .int .i64 f5, .int .i64 f6, .slice o0 f7.length o1] from (k75_mkF _ _ (⟨f3, (⟨f4, f5, f6, f7⟩ : S32)⟩ : S75) (Kd.R_reads' (Kd.R_mono (ok' := (fun k_ => (b7 k_ ∨ w.heap.size ≤ k_) ∧ some k_ ≠ (.slice b4 a9.length b3 : Value).ownBlock ∧ some k_ ≠ (.slice f8 d6.length f9 : Value).ownBlock ∧ k_ ≠ b6 ∧ k_ ≠ b5 ∧ k_ ≠ a8)) (Kd.R_types (Kd.R_types (Kd.R_types (i9.out) a1.out (by decide)) a5.out (by decide)) a3.out (by decide)) (fun k_ hk => ⟨(.inr (hk.1.1.1.1.1.1)), ⟨hk.1.1.1.1.2, ⟨hk.1.1.1.2, ⟨hk.1.1.2, ⟨hk.1.2, hk.2⟩⟩⟩⟩⟩))).2.1 (Kd.R_F (Kd.R_mono (ok' := (fun k_ => (b7 k_ ∨ w.heap.size ≤ k_) ∧ some k_ ≠ (.slice b4 a9.length b3 : Value).ownBlock ∧ some k_ ≠ (.slice f8 d6.length f9 : Value).ownBlock ∧ k_ ≠ b6 ∧ k_ ≠ b5 ∧ k_ ≠ a8)) (Kd.R_types (Kd.R_types (Kd.R_types (i9.out) a1.out (by decide)) a5.out (by decide)) a3.out (by decide)) (fun k_ hk => ⟨(.inr (hk.1.1.1.1.1.1)), ⟨hk.1.1.1.1.2, ⟨hk.1.1.1.2, ⟨hk.1.1.2, ⟨hk.1.2, hk.2⟩⟩⟩⟩⟩))))) (Reps.none _ _))))
  intro I6 I7 h8 hb hg_ hnew_
  clear hg_ hnew_
  (first | rw [← n8.out] at h8 | (simp only [Int.reduceToNat] at h8; rw [← n8.out] at h8))
  replace a4 := zA (Kd.V_elder' (zV a4.out) (Kd.N_base h8) hb); replace a7 := zr a7 hb; replace d7 := zr d7 hb; have t1 := zA (Kd.N_lower h8 (below_size (zW HB.out))); replace a1 := zb a1 hb; replace a5 := zb a5 hb; replace a3 := zb a3 hb; replace HB := zh HB hb; clear i9; clear hb h8
  refine hK.out _ _ zO fun hHeld => ?_
  clear hK K; refine zn ?_; refine zp 6 6 ?_
  refine done_ (by kernel_rfl) ?_
  try go_wp2
  go_ret
  exact ⟨_, zE, zNt (Kd.N_mono t1.out (fun _ hk => hk.1)), zW HB.out⟩
 have i7 := beq_eq_false_iff_ne.mpr h7
 have i8 := bne_iff_ne.mpr h7
 replace H := zI0 H
 rcases H with ⟨k9, H⟩ | ⟨k9, H⟩
 ·replace H := Option.bind_eq_some_iff.mp H; obtain ⟨⟨g0, g1, g2, g3, g4⟩, o3, H⟩ := H
  try dsimp only at H
  have t2 := zA o3; clear o3; obtain ⟨t3, l0⟩ : ∃ y_ : List (S75), y_ = (([(⟨4, (⟨b0, b1, b2, a6⟩ : S32)⟩ : S75), (⟨g0, (⟨g1, g2, g3, g4⟩ : S32)⟩ : S75)] : List (S75))) := ⟨_, rfl⟩; replace H : (some t3) = some r := zY l0 H; have o4 := zA l0; clear l0; obtain rfl := zm H
  (try simp only [c4, c6, c7, c8, d0, d1, d8, d9, i1, i2, i7, i8, k9])
  try go_wp2
  generalize hW_ : ((((c9.setCell ⟨a8, 0, none⟩ (.int .i64 c1)).setCell ⟨a8, 1, none⟩ (.int .i64 c2)).setCell ⟨a8, 2, none⟩ (.int .i64 c3)).setCell ⟨a8, 3, none⟩ (.slice b4 a9.length b3)) = l1; replace a4 : Aside0 (Kd.V Kd.string 9 l1 w.heap.size (fun k_ => (b7 k_ ∨ w.heap.size ≤ k_) ∧ some k_ ≠ (.slice b4 a9.length b3 : Value).ownBlock ∧ k_ ≠ b6 ∧ k_ ≠ b5 ∧ k_ ≠ a8) (.slice b9 a6.length b8) a6) := ⟨by subst hW_; exact zVt (Kd.V_mono (zv4 a4.out (fun _ hk => hk.2)) (fun _ hk => ⟨hk.1.1.1.1, ⟨hk.1.2, ⟨hk.1.1.1.2, ⟨hk.1.1.2, hk.2⟩⟩⟩⟩))⟩; replace a7 : Aside0 (Kd.R Kd.string 9 l1 w.heap.size (fun k_ => (w.heap.size ≤ k_)) (.slice b4 a9.length b3) a9) := ⟨by subst hW_; exact zR (Kd.R_mono (zr4 a7.out a3.out) (fun _ hk => hk.1))⟩; replace a1 := zA (zh1 hW_.symm (zK a1.out)); replace a5 := zA (zh1 hW_.symm (zK a5.out)); replace a3 := zA (zh1 hW_.symm (zk4 a3.out)); replace HB := zA (zh2 hW_.symm (zW HB.out)); clear hW_; replace a4 := zA (Kd.V_drew a4.out); replace a7 := zA (Kd.R_drew a7.out); replace a1 := zA (blk_drew a1.out); replace a5 := zA (blk_drew a5.out); replace a3 := zA (blk_drew a3.out); replace HB := zA (below_drew1 HB.out)
  refine start_ (n := 5) (S := fun w' => w'.cell? ⟨b5, 0, none⟩ = some (.int .i64 4) ∧ w'.cell? ⟨b5, 1, none⟩ = some (.int .i64 b0) ∧ w'.cell? ⟨b5, 2, none⟩ = some (.int .i64 b1) ∧ w'.cell? ⟨b5, 3, none⟩ = some (.int .i64 b2) ∧ w'.cell? ⟨b5, 4, none⟩ = some (.slice b9 a6.length b8) ∧ w'.cell? ⟨a8, 0, none⟩ = some (.int .i64 c1) ∧ w'.cell? ⟨a8, 1, none⟩ = some (.int .i64 c2) ∧ w'.cell? ⟨a8, 2, none⟩ = some (.int .i64 c3) ∧ w'.cell? ⟨a8, 3, none⟩ = some (.slice b4 a9.length b3)) (ds := []) (Array.replicate 5 false) (by kernel_rfl) rfl rfl zO fun hHeld => ?_
  generalize l1.drew = I8 at a4 a7 a1 a5 a3 HB hHeld ⊢; refine zt 0 67 ?_; refine zt 1 68 ?_
  refine zo 2 (some 69) fun K hK => ?_
  refine goes_ Tryz.func192 (by kernel_rfl) rfl #[.agg #[.int .i64 c1, .int .i64 c2, .int .i64 c3, .slice b4 a9.length b3]] (by rfl) rfl rfl zM ?_
  with_reducible refine (impl_below.calls c1 c2 c3 _ _ a9 g0 g1 g2 g3 g4 _ ?s1 ?s2 t2.out).mono ?_
  (case s1 => repeat (first | exact (Kd.R_reads' a7.out).2.2 | (with_reducible refine Kd.C_alloc ?_ _) | (with_reducible refine Kd.C_drewN ?_ _) | (with_reducible refine Kd.C_drew ?_)))
  (case s2 => exact (Kd.R_reads' a7.out).2.1)
  rintro e t4 ⟨I9, rfl, c0, hb⟩
  refine ⟨_, rfl, ?_⟩
  replace a4 := zA (Kd.V_elder' (zV a4.out) (Kd.R_base c0) hb); have j0 := zA (Kd.R_lower (Kd.R_new' (Kd.R_newM (M := fun k_ => (w.heap.size ≤ k_)) c0 (below_size (zW HB.out)) (fun k_ h_ => h_)) (Kd.R_lt (zR a7.out))) (below_size (zW HB.out))); replace a7 := zA (Kd.R_elder' (zR a7.out) (Kd.R_base c0) hb); replace a1 := zb a1 hb; replace a5 := zb a5 hb; replace a3 := zb a3 hb; replace HB := zh HB hb
  (try clear hb c0)
  obtain ⟨o5, o6, o7⟩ := Kd.R_slice j0.out
  (first | subst o7 | (injection o7 with f1_ f2_ f3_; have d4 := f1_.symm; have d5 := f3_.symm; clear f1_ f2_ f3_; subst d4; subst d5))
  refine hK.out _ _ zO fun hHeld => ?_
  clear hK K; refine zn ?_
  refine zo 3 (some 70) fun K hK => ?_
  refine Kd.N_lit_step k75 _ 75 ?hg (N' := 70) ?hd (xs := ([(⟨4, (⟨b0, b1, b2, a6⟩ : S32)⟩ : S75), (⟨g0, (⟨g1, g2, g3, g4⟩ : S32)⟩ : S75)] : List (S75))) (inner := [.int .i64 4, .int .i64 b0, .int .i64 b1, .int .i64 b2, .slice b9 a6.length b8, .int .i64 g0, .int .i64 g1, .int .i64 g2, .int .i64 g3, .slice o5 g4.length o6]) (ok := (fun k_ => (b7 k_ ∨ w.heap.size ≤ k_) ∧ some k_ ≠ (.slice b4 a9.length b3 : Value).ownBlock ∧ k_ ≠ b6 ∧ k_ ≠ b5 ∧ k_ ≠ a8)) ?hr ?hp (fun _ hk => hk) ((show ∀ k_, t4.heap.size ≤ k_ → (fun k_ => (b7 k_ ∨ w.heap.size ≤ k_) ∧ some k_ ≠ (.slice b4 a9.length b3 : Value).ownBlock ∧ k_ ≠ b6 ∧ k_ ≠ b5 ∧ k_ ≠ a8) k_ from fun k_ hk => ⟨(.inr (Nat.le_trans (below_size (zW HB.out)) hk)), Kd.fresh' (Kd.R_lt (zR a7.out)) k_ hk, Kd.freshB (zK a1.out) k_ hk, Kd.freshB (zK a5.out) k_ hk, Kd.freshB (zK a3.out) k_ hk⟩) _ (Nat.le_refl _)) (Below.refl _ _) (Nat.le_refl _) (by simp) ?_; (case hd => rfl); (case hg => rfl); (case hr => first | (go_simp; done) | (go_simp; rfl)); (case hp => exact (Reps.c5 (show Kd.FK k75 _ _ (⟨4, (⟨b0, b1, b2, a6⟩ : S32)⟩ : S75) [.int .i64 4, .int .i64 b0, .int .i64 b1, .int .i64 b2, .slice b9 a6.length b8] from (k75_mkF _ _ (⟨4, (⟨b0, b1, b2, a6⟩ : S32)⟩ : S75) (Kd.V_reads' (Kd.V_mono (ok' := (fun k_ => (b7 k_ ∨ w.heap.size ≤ k_) ∧ some k_ ≠ (.slice b4 a9.length b3 : Value).ownBlock ∧ k_ ≠ b6 ∧ k_ ≠ b5 ∧ k_ ≠ a8)) (a4.out) (fun k_ hk => ⟨hk.1.1, ⟨hk.1.2.1, ⟨hk.1.2.2.1, ⟨hk.1.2.2.2.1, hk.1.2.2.2.2⟩⟩⟩⟩))).2.1 (Kd.V_F (Kd.V_mono (ok' := (fun k_ => (b7 k_ ∨ w.heap.size ≤ k_) ∧ some k_ ≠ (.slice b4 a9.length b3 : Value).ownBlock ∧ k_ ≠ b6 ∧ k_ ≠ b5 ∧ k_ ≠ a8)) (a4.out) (fun k_ hk => ⟨hk.1.1, ⟨hk.1.2.1, ⟨hk.1.2.2.1, ⟨hk.1.2.2.2.1, hk.1.2.2.2.2⟩⟩⟩⟩))))) (Reps.c5 (show Kd.FK k75 _ _ (⟨g0, (⟨g1, g2, g3, g4⟩ : S32)⟩ : S75) [.int .i64 g0, .int .i64 g1, .int .i64 g2, .int .i64 g3, .slice o5 g4.length o6] from (k75_mkF _ _ (⟨g0, (⟨g1, g2, g3, g4⟩ : S32)⟩ : S75) (Kd.R_reads' (Kd.R_mono (ok' := (fun k_ => (b7 k_ ∨ w.heap.size ≤ k_) ∧ some k_ ≠ (.slice b4 a9.length b3 : Value).ownBlock ∧ k_ ≠ b6 ∧ k_ ≠ b5 ∧ k_ ≠ a8)) (Kd.R_types (Kd.R_types (Kd.R_types (j0.out) a1.out (by decide)) a5.out (by decide)) a3.out (by decide)) (fun k_ hk => ⟨(.inr (hk.1.1.1.1.1)), ⟨hk.1.1.1.2, ⟨hk.1.1.2, ⟨hk.1.2, hk.2⟩⟩⟩⟩))).2.1 (Kd.R_F (Kd.R_mono (ok' := (fun k_ => (b7 k_ ∨ w.heap.size ≤ k_) ∧ some k_ ≠ (.slice b4 a9.length b3 : Value).ownBlock ∧ k_ ≠ b6 ∧ k_ ≠ b5 ∧ k_ ≠ a8)) (Kd.R_types (Kd.R_types (Kd.R_types (j0.out) a1.out (by decide)) a5.out (by decide)) a3.out (by decide)) (fun k_ hk => ⟨(.inr (hk.1.1.1.1.1)), ⟨hk.1.1.1.2, ⟨hk.1.1.2, ⟨hk.1.2, hk.2⟩⟩⟩⟩))))) (Reps.none _ _))))
  intro J0 J1 h9 hb hg_ hnew_
  clear hg_ hnew_
  (first | rw [← o4.out] at h9 | (simp only [Int.reduceToNat] at h9; rw [← o4.out] at h9))
  replace a4 := zA (Kd.V_elder' (zV a4.out) (Kd.N_base h9) hb); replace a7 := zr a7 hb; have t5 := zA (Kd.N_lower h9 (below_size (zW HB.out))); replace a1 := zb a1 hb; replace a5 := zb a5 hb; replace a3 := zb a3 hb; replace HB := zh HB hb; clear j0; clear hb h9
  refine hK.out _ _ zO fun hHeld => ?_
  clear hK K; refine zn ?_; refine zp 4 6 ?_
  refine done_ (by kernel_rfl) ?_
  try go_wp2
  go_ret
  exact ⟨_, zE, zNt (Kd.N_mono t5.out (fun _ hk => hk.1)), zW HB.out⟩
 obtain ⟨t6, l2⟩ : ∃ y_ : List (S75), y_ = (([(⟨0, (⟨b0, b1, b2, a6⟩ : S32)⟩ : S75)] : List (S75))) := ⟨_, rfl⟩
 replace H : (some t6) = some r := zY l2 H
 have o8 := zA l2
 clear l2
 obtain rfl := zm H
 generalize hw_ : ((((c9.setCell ⟨a8, 0, none⟩ (.int .i64 c1)).setCell ⟨a8, 1, none⟩ (.int .i64 c2)).setCell ⟨a8, 2, none⟩ (.int .i64 c3)).setCell ⟨a8, 3, none⟩ (.slice b4 a9.length b3)) = o9
 have hw := hw_.symm
 clear hw_
 replace a4 : Aside0 (Kd.V Kd.string 9 o9 w.heap.size (fun k_ => (b7 k_ ∨ w.heap.size ≤ k_) ∧ some k_ ≠ (.slice b4 a9.length b3 : Value).ownBlock ∧ k_ ≠ b6 ∧ k_ ≠ b5 ∧ k_ ≠ a8) (.slice b9 a6.length b8) a6) := ⟨(by rw [hw]; exact (zVt (Kd.V_mono (zv4 a4.out (fun _ hk => hk.2)) (fun _ hk => ⟨hk.1.1.1.1, ⟨hk.1.2, ⟨hk.1.1.1.2, ⟨hk.1.1.2, hk.2⟩⟩⟩⟩))))⟩
 replace a7 : Aside0 (Kd.R Kd.string 9 o9 w.heap.size (fun k_ => (w.heap.size ≤ k_)) (.slice b4 a9.length b3) a9) := ⟨(by rw [hw]; exact (zR (Kd.R_mono (zr4 a7.out a3.out) (fun _ hk => hk.1))))⟩
 replace a1 := zA (zh1 hw (zK a1.out))
 replace a5 := zA (zh1 hw (zK a5.out))
 replace a3 := zA (zh1 hw (zk4 a3.out))
 replace HB := zA (zh2 hw (zW HB.out))
 clear hw
 obtain ⟨J2, J3, J4, J5, J6, J7, J8, J9⟩ := ze4 a1.out
 (try simp only [c4, c6, c7, c8, d0, d1, d8, d9, i1, i2, i7, i8, k9])
 go_wp2_with (first | ((with_reducible refine gate_dst (N := 73) rfl ?_); refine zNl k75 75 73 (xs := ([(⟨0, (⟨b0, b1, b2, a6⟩ : S32)⟩ : S75)] : List (S75))) (inner := [.int .i64 0, .int .i64 b0, .int .i64 b1, .int .i64 b2, .slice b9 a6.length b8]) (ok := (fun k_ => (b7 k_ ∨ w.heap.size ≤ k_) ∧ some k_ ≠ (.slice b4 a9.length b3 : Value).ownBlock ∧ k_ ≠ b6 ∧ k_ ≠ b5 ∧ k_ ≠ a8)) ((Reps.c5 (show Kd.FK k75 _ _ (⟨0, (⟨b0, b1, b2, a6⟩ : S32)⟩ : S75) [.int .i64 0, .int .i64 b0, .int .i64 b1, .int .i64 b2, .slice b9 a6.length b8] from (k75_mkF _ _ (⟨0, (⟨b0, b1, b2, a6⟩ : S32)⟩ : S75) (Kd.V_reads' (a4.out)).2.1 (Kd.V_F (a4.out)))) (Reps.none _ _))) (fun k_ hk => ⟨(.inr (Nat.le_trans (below_size (zW HB.out)) hk)), Kd.fresh' (Kd.R_lt (zR a7.out)) k_ hk, Kd.freshB (zK a1.out) k_ hk, Kd.freshB (zK a5.out) k_ hk, Kd.freshB (zK a3.out) k_ hk⟩) ?_; intro L0 L1 i0 hb hg_ hnew_; clear hg_ hnew_; (first | rw [← o8.out] at i0 | (simp only [Int.reduceToNat] at i0; rw [← o8.out] at i0)); replace a4 := zA (Kd.V_elder' (zV a4.out) (Kd.N_base i0) hb); replace a7 := zr a7 hb; have t7 := zA (Kd.N_lower i0 (below_size (zW HB.out))); replace a1 := zb a1 hb; replace a5 := zb a5 hb; replace a3 := zb a3 hb; replace HB := zh HB hb; clear hb i0))
 go_ret
 exact ⟨_, zE, zNt (Kd.N_mono t7.out (fun _ hk => hk.1)), zW HB.out⟩
end Go.Proofs.YtpcdhoeoefoeoaaGreatDoor.PGE
