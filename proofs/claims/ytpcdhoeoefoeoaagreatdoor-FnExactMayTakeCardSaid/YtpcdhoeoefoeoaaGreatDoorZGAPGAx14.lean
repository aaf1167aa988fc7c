/- The walks of the functions that these laws reach, and what each comes to: printed by this session's program. -/
import Derived.Deep.CutBlock
import Derived.Test.YtpcdhoeoefoeoaaGreatDoorZGAPGAx0
import Derived.Test.YtpcdhoeoefoeoaaGreatDoorZGAPGAx12
import Derived.Test.YtpcdhoeoefoeoaaGreatDoorZGAPGAx13
import Derived.Test.YtpcdhoeoefoeoaaGreatDoorZGASays
namespace Go.Proofs.YtpcdhoeoefoeoaaGreatDoor.PGA
open Go.RowKit YtpcdhoeoefoeoaaGreatDoorW.PrintWords YtpcdhoeoefoeoaaGreatDoorW.PrintLast YtpcdhoeoefoeoaaGreatDoorW.PrintMore
attribute [local go_sem high] Mine.str_gtr Mine.str_leq Mine.str_geq
attribute [local go_sem] max2_int min2_int max_two min_two max_three min_three max_four min_four   -- for this text's walks alone
set_option linter.unusedVariables false
set_option maxHeartbeats 8000000
set_option maxRecDepth 100000
set_option linter.unusedSimpArgs false
/-! ### impl_ParseVer: function 128 -/
def impl_ParseVer.no : Int × Int × Int × List ByteArray × Bool := (0, 0, 0, [], false)
/-- The numbers are read: what stands behind the dash, and whether all is told so. -/
def impl_ParseVer.fin (k : Nat) (a0 pre : ByteArray) (has : Bool) (a b c : Int) : Option (Int × Int × Int × List ByteArray × Bool) :=
 if has = true then (strings_Split.f pre (⟨#[46]⟩ : ByteArray)).bind fun q => (impl_VerText.f k a b c q).bind fun t => if t.toList = a0.toList then some (a, b, c, q, true) else some impl_ParseVer.no
 else (impl_VerText.f k a b c []).bind fun t => if t.toList = a0.toList then some (a, b, c, [], true) else some impl_ParseVer.no
def impl_ParseVer.n1 (k : Nat) (a0 pre : ByteArray) (has : Bool) (ps : List ByteArray) (a b : Int) : Option (Int × Int × Int × List ByteArray × Bool) := (impl_ParseNum.f k (rdOf ByteArray.empty ps 2) 9999).bind fun t => if t.2 = true then impl_ParseVer.fin k a0 pre has a b t.1 else some impl_ParseVer.no
def impl_ParseVer.n2 (k : Nat) (a0 pre : ByteArray) (has : Bool) (ps : List ByteArray) (a : Int) : Option (Int × Int × Int × List ByteArray × Bool) := (impl_ParseNum.f k (rdOf ByteArray.empty ps 1) 9999).bind fun t => if t.2 = true then impl_ParseVer.n1 k a0 pre has ps a t.1 else some impl_ParseVer.no
def impl_ParseVer.n3 (k : Nat) (a0 pre : ByteArray) (has : Bool) (ps : List ByteArray) : Option (Int × Int × Int × List ByteArray × Bool) := (impl_ParseNum.f k (rdOf ByteArray.empty ps 0) 9999).bind fun t => if t.2 = true then impl_ParseVer.n2 k a0 pre has ps t.1 else some impl_ParseVer.no
/-- So many numbers are still to be read; what is read so far. -/
def impl_ParseVer.rest (k : Nat) (a0 pre : ByteArray) (has : Bool) (ps : List ByteArray) (m : Nat) (a b c : Int) : Option (Int × Int × Int × List ByteArray × Bool) :=
 match m with
 | 0 => impl_ParseVer.fin k a0 pre has a b c
 | 1 => impl_ParseVer.n1 k a0 pre has ps a b
 | 2 => impl_ParseVer.n2 k a0 pre has ps a
 | _ => impl_ParseVer.n3 k a0 pre has ps
def impl_ParseVer.f (k : Nat) (a0 : ByteArray) : Option (Int × Int × Int × List ByteArray × Bool) :=
 (strings_Cut.f a0 (⟨#[45]⟩ : ByteArray)).bind fun t => (strings_Split.f t.1 (⟨#[46]⟩ : ByteArray)).bind fun ps => if ps.length = 3 then impl_ParseVer.n3 k a0 t.2.1 t.2.2 ps else some impl_ParseVer.no
theorem impl_ParseVer.calls (k : Nat) (a0 : ByteArray) (r1 r2 r3 : Int) (r4 : List ByteArray) (r5 : Bool) (w : World) (hG : GW w) (h : impl_ParseVer.f k a0 = some (r1, r2, r3, r4, r5)) :
  Calls Tryz.prog 128 #[.string a0] w fun e w' => ∃ v3_ : Value, e = .returned (.tuple #[.agg #[.int .i64 r1, .int .i64 r2, .int .i64 r3, v3_], .bool r5]) ∧ Kd.R Kd.string 9 w' w.heap.size (fun _ => True) v3_ r4 ∧ Below w.heap.size w w' := by
 have hu_ := Tryz.underlying32
 have HG := Aside0.mk hG
 have HB := zA (Below.refl w.heap.size w)
 clear hG
 unfold impl_ParseVer.f at h
 replace h := Option.bind_eq_some_iff.mp h
 obtain ⟨t, hcut, h⟩ := h
 replace h := Option.bind_eq_some_iff.mp h
 obtain ⟨ps, hsplit, h⟩ := h
 obtain ⟨num, pre, has⟩ := t
 have CUT := Aside0.mk hcut
 have SPL := Aside0.mk hsplit
 clear hcut hsplit
 by_cases hlen : ps.length = 3
 ·rw [if_pos hlen] at h
  have REST := Aside0.mk h
  have LEN := Aside0.mk hlen
  have hl3 : ((ps.length : Int) == 3) = true := by rw [hlen]; rfl
  have hl3' : ((ps.length : Int) != 3) = false := by rw [hlen]; rfl
  clear h hlen
  go_enter Tryz.func128, Tryz.ntmps128
  go_wp2_with (first
   | ((with_reducible refine gate_dst (N := 2) rfl ?_); refine box_event ?hg (N := 2) ?hd (cs := #[.int .i64 0, .int .i64 0, .int .i64 0, .slice none 0 0]) (t := 32) ?hr ?_; (case hd => rfl); (case hg => rfl); (case hr => first | (go_simp; done) | (go_simp; rfl)); intro gr hg w1 hbox hb; have n0_ := zA (below_step HB.out hb); have BR := Aside0.mk hbox; have GR := zA ((by rw [hg]; exact Nat.le_refl _) : w.heap.size ≤ gr); clear HB; have HB := n0_; clear n0_; clear hb hbox hg)
   | (go_at_call 165; (with_reducible refine (strings_Cut.calls a0 (⟨#[45]⟩ : ByteArray) num pre has _ ?hgw CUT.out).mono ?_); (case hgw => exact GW.below HG.out HB.out); rintro e w2 ⟨rfl, hb⟩; have n0_ := zA (below_step HB.out hb); have n1_ := zA (blk_below BR.out hb); clear HB BR; have HB := n0_; have BR := n1_; clear n0_ n1_ hb)
   | (go_at_call 81; (with_reducible refine (strings_Split.calls num (⟨#[46]⟩ : ByteArray) ps _ ?hgw SPL.out).mono ?_); (case hgw => exact GW.below HG.out HB.out); rintro e w3 ⟨v3, rfl, ho, hb⟩; have n0_ := zA (below_step HB.out hb); have n1_ := zA (blk_below BR.out hb); have HO := zA (Kd.R_lower ho (below_size HB.out)); clear HB BR; have HB := n0_; have BR := n1_; clear n0_ n1_ hb ho; obtain ⟨Ao, co, eo⟩ := Kd.R_slice HO.out; subst eo)
   | ((with_reducible refine gate_dst (N := 8) rfl ?_); refine box_event ?hg (N := 8) ?hd (cs := #[.int .i64 0, .int .i64 0, .int .i64 0, .slice none 0 0]) (t := 32) ?hr ?_; (case hd => rfl); (case hg => rfl); (case hr => first | (go_simp; done) | (go_simp; rfl)); intro gv hg w4 hbox hb; have n0_ := zA (below_step HB.out hb); have n1_ := zA (blk_below BR.out hb); have n2_ := zA (Kd.R_below HO.out hb); have BV := Aside0.mk hbox; have GV := zA ((by rw [hg]; exact below_size HB.out) : w.heap.size ≤ gv); have NE := zA ((by rw [hg]; exact Nat.ne_of_lt (blk_lt BR.out)) : gr ≠ gv); clear HB BR HO; have HB := n0_; have BR := n1_; have HO := n2_; clear n0_ n1_ n2_; clear hb hbox hg))
  go_loopg [29] 3 (fun gg s29 wr => ∃ (m : Nat) (a b c : Int), m ≤ 3 ∧ m ≤ gg ∧ s29 = .int .i64 ((3 - m : Nat) : Int) ∧ (m = 3 → a = 0) ∧ (2 ≤ m → b = 0) ∧ (1 ≤ m → c = 0) ∧ Aside0 (impl_ParseVer.rest k a0 pre has ps m a b c = some (r1, r2, r3, r4, r5)) ∧ Aside0 (Below w.heap.size w wr) ∧
   Aside0 (wr.heap[gr]? = some (.cells #[.int .i64 0, .int .i64 0, .int .i64 0, .slice none 0 0] 32 (0, 0))) ∧ Aside0 (wr.heap[gv]? = some (.cells #[.int .i64 a, .int .i64 b, .int .i64 c, .slice none 0 0] 32 (0, 0))) ∧
   Aside0 (Kd.string.R 9 wr w.heap.size (fun _ => True) (.slice Ao ps.length co) ps))
  case atStart => exact ⟨3, 0, 0, 0, Nat.le_refl _, Nat.le_refl _, rfl, fun _ => rfl, fun _ => rfl, fun _ => rfl, REST, HB, BR, BV, HO⟩
  case round =>
   clear HB BR BV HO
   obtain ⟨m, a, b, c, hm3, hmg, rfl, ha, hb0, hc0, REST, HB, BR, BV, HO⟩ := hrel
   rcases m with _ | _ | _ | m
   ·
    have H := REST.out
    clear REST
    replace H : impl_ParseVer.fin k a0 pre has a b c = some (r1, r2, r3, r4, r5) := H
    unfold impl_ParseVer.fin at H
    cases has with
    | true =>
     simp only [if_true] at H
     replace H := Option.bind_eq_some_iff.mp H
     obtain ⟨q, hq, H⟩ := H
     replace H := Option.bind_eq_some_iff.mp H
     obtain ⟨t, ht, H⟩ := H
     have SQ := Aside0.mk hq
     have VT := Aside0.mk ht
     clear hq ht
     go_wp2_with (fail)
     (with_reducible refine (strings_Split.calls pre (⟨#[46]⟩ : ByteArray) q _ ?hgw SQ.out).mono ?_)
     (case hgw => exact GW.below HG.out (zW HB.out))
     rintro e w5 ⟨v5, rfl, ho, hb⟩
     replace BR := zb BR hb
     replace BV := zb BV hb
     have HQ := zA (Kd.R_lower ho (below_size (zW HB.out)))
     replace HB := zh HB hb
     clear HO ho hb
     obtain ⟨Aq, cq, eq_⟩ := Kd.R_slice HQ.out
     subst eq_
     have hnb := NE.out
     have hnc := NE.out.symm
     have vc0 := zc0 BV.out
     have vf0 := zF BV.out 0
     have vc1 := zc1 BV.out
     have vf1 := zF BV.out 1
     have vc2 := zc2 BV.out
     have vf2 := zF BV.out 2
     have vc3 := zc3 BV.out
     have vf3 := zF BV.out 3
     go_wp2_with (fail)
     (with_reducible refine (impl_VerText.calls k a b c _ _ q t _ ?side1 ?side2 ?hgw VT.out).mono ?_)
     (case side1 => exact (Kd.R_reads' (Kd.R_set (zR HQ.out) BV.out (by decide) _ _)).2.2)
     (case side2 => exact (Kd.R_reads' HQ.out).2.1)
     (case hgw => exact GW.below HG.out (zW HB.out))
     rintro e w6 ⟨rfl, hb⟩
     replace HB := zh HB hb
     replace BR := zA (blk_below (g := gr) (o := .cells #[.int .i64 0, .int .i64 0, .int .i64 0, .slice none 0 0] 32 (0, 0)) (by (with_reducible repeat (first | refine blk_drewN ?_ _ | refine blk_drew ?_ | refine blk_alloc ?_ _)); refine blk_far ?_ NE.out _; (with_reducible repeat (first | refine blk_drewN ?_ _ | refine blk_drew ?_ | refine blk_alloc ?_ _)); exact BR.out) hb)
     replace HQ := zA (Kd.R_below (Kd.R_set (zR HQ.out) BV.out (by decide) _ _) hb)
     replace BV := zA (blk_below (g := gv) (o := .cells #[.int .i64 a, .int .i64 b, .int .i64 c, .slice Aq q.length cq] 32 (0, 0)) (by (with_reducible repeat (first | refine blk_drewN ?_ _ | refine blk_drew ?_ | refine blk_alloc ?_ _)); refine blk_put (cs := #[.int .i64 a, .int .i64 b, .int .i64 c, .slice none 0 0]) ?_ 3 _ rfl; (with_reducible repeat (first | refine blk_drewN ?_ _ | refine blk_drew ?_ | refine blk_alloc ?_ _)); exact BV.out) hb)
     clear vc0 vc1 vc2 vc3 vf0 vf1 vf2 vf3 hb
     have vc0 := zc0 BV.out
     have vf0 := zF BV.out 0
     have vc1 := zc1 BV.out
     have vf1 := zF BV.out 1
     have vc2 := zc2 BV.out
     have vf2 := zF BV.out 2
     have vc3 := zc3 BV.out
     have vf3 := zF BV.out 3
     have rc0 := zc0 BR.out
     have rf0 := zF BR.out 0
     have rc1 := zc1 BR.out
     have rf1 := zF BR.out 1
     have rc2 := zc2 BR.out
     have rf2 := zF BR.out 2
     have rc3 := zc3 BR.out
     have rf3 := zF BR.out 3
     by_cases hs : t.toList = a0.toList
     ·rw [if_pos hs] at H
      simp only [Option.some.injEq, Prod.mk.injEq] at H
      obtain ⟨rfl, rfl, rfl, rfl, rfl⟩ := H
      have s0 : (t.toList == a0.toList) = true := beq_iff_eq.mpr hs
      have s1 : (t.toList != a0.toList) = false := bne_eq_false_iff_eq.mpr hs
      clear hs
      go_wp2
      refine bodyPost_ret (results_ct rfl _ _ gr 32 #[.int .i64 a, .int .i64 b, .int .i64 c, .slice Aq q.length cq] (0, 0) _ rfl (zk4 BR.out) Tryz.underlying32 rfl (by kernel_rfl)) rfl ?_
      exact ⟨_, rfl, zR (Kd.R_mono (Kd.R_far (p := ⟨gr, 3, none⟩) (Kd.R_far (p := ⟨gr, 2, none⟩) (Kd.R_far (p := ⟨gr, 1, none⟩) (Kd.R_far (p := ⟨gr, 0, none⟩) (Kd.R_types HQ.out BR.out (by decide)) (fun _ hk => hk.2) (.int .i64 a)) (fun _ hk => hk.2) (.int .i64 b)) (fun _ hk => hk.2) (.int .i64 c)) (fun _ hk => hk.2) (.slice Aq q.length cq)) (fun _ _ => trivial)), zW HB.out⟩
     ·rw [if_neg hs] at H
      simp only [impl_ParseVer.no, Option.some.injEq, Prod.mk.injEq] at H
      obtain ⟨rfl, rfl, rfl, rfl, rfl⟩ := H
      have s0 : (t.toList == a0.toList) = false := beq_eq_false_iff_ne.mpr hs
      have s1 : (t.toList != a0.toList) = true := bne_iff_ne.mpr hs
      clear hs
      go_wp2
      refine bodyPost_ret (results_ct rfl _ _ gr 32 #[.int .i64 0, .int .i64 0, .int .i64 0, .slice none 0 0] (0, 0) _ rfl (zk4 BR.out) Tryz.underlying32 rfl (by kernel_rfl)) rfl ?_
      exact ⟨_, rfl, Kd.R_nil _ _ _ _ _, zW HB.out⟩
    | false =>
     simp only [Bool.false_eq_true, if_false] at H
     replace H := Option.bind_eq_some_iff.mp H
     obtain ⟨t, ht, H⟩ := H
     have VT := Aside0.mk ht
     clear ht HO
     have hnb := NE.out
     have hnc := NE.out.symm
     have vc0 := zc0 BV.out
     have vf0 := zF BV.out 0
     have vc1 := zc1 BV.out
     have vf1 := zF BV.out 1
     have vc2 := zc2 BV.out
     have vf2 := zF BV.out 2
     have vc3 := zc3 BV.out
     have vf3 := zF BV.out 3
     go_wp2_with (fail)
     (refine (impl_VerText.calls k a b c none 0 [] t _ ?side1 ?side2 ?hgw VT.out).mono ?_)
     (case side1 => exact Kd.C_nil _ _)
     (case side2 => exact Nat.le_refl _)
     (case hgw => exact GW.below HG.out (zW HB.out))
     rintro e w6 ⟨rfl, hb⟩
     replace HB := zh HB hb
     replace BR := zb BR hb
     replace BV := zb BV hb
     clear vc0 vc1 vc2 vc3 vf0 vf1 vf2 vf3 hb
     have vc0 := zc0 BV.out
     have vf0 := zF BV.out 0
     have vc1 := zc1 BV.out
     have vf1 := zF BV.out 1
     have vc2 := zc2 BV.out
     have vf2 := zF BV.out 2
     have vc3 := zc3 BV.out
     have vf3 := zF BV.out 3
     have rc0 := zc0 BR.out
     have rf0 := zF BR.out 0
     have rc1 := zc1 BR.out
     have rf1 := zF BR.out 1
     have rc2 := zc2 BR.out
     have rf2 := zF BR.out 2
     have rc3 := zc3 BR.out
     have rf3 := zF BR.out 3
     by_cases hs : t.toList = a0.toList
     ·rw [if_pos hs] at H
      simp only [Option.some.injEq, Prod.mk.injEq] at H
      obtain ⟨rfl, rfl, rfl, rfl, rfl⟩ := H
      have s0 : (t.toList == a0.toList) = true := beq_iff_eq.mpr hs
      have s1 : (t.toList != a0.toList) = false := bne_eq_false_iff_eq.mpr hs
      clear hs
      go_wp2
      refine bodyPost_ret (results_ct rfl _ _ gr 32 #[.int .i64 a, .int .i64 b, .int .i64 c, .slice none 0 0] (0, 0) _ rfl (zk4 BR.out) Tryz.underlying32 rfl (by kernel_rfl)) rfl ?_
      exact ⟨_, rfl, Kd.R_nil _ _ _ _ _, zW HB.out⟩
     ·rw [if_neg hs] at H
      simp only [impl_ParseVer.no, Option.some.injEq, Prod.mk.injEq] at H
      obtain ⟨rfl, rfl, rfl, rfl, rfl⟩ := H
      have s0 : (t.toList == a0.toList) = false := beq_eq_false_iff_ne.mpr hs
      have s1 : (t.toList != a0.toList) = true := bne_iff_ne.mpr hs
      clear hs
      go_wp2
      refine bodyPost_ret (results_ct rfl _ _ gr 32 #[.int .i64 0, .int .i64 0, .int .i64 0, .slice none 0 0] (0, 0) _ rfl (zk4 BR.out) Tryz.underlying32 rfl (by kernel_rfl)) rfl ?_
      exact ⟨_, rfl, Kd.R_nil _ _ _ _ _, zW HB.out⟩
   ·
    obtain rfl := hc0 (by omega)
    obtain ⟨pb, po, e_, hcell⟩ := Lb.C_string_plain (Kd.R_reads' HO.out).2.2 (by have := LEN.out; omega)
    cases e_
    have hx : wr.cell? ⟨pb, po + 2, none⟩ = some (.string (rdOf ByteArray.empty ps 2)) := hcell 2 _ (by
     unfold rdOf
     rw [List.getD_eq_getElem?_getD, show (2 : Int).toNat = 2 from rfl, List.getElem?_eq_getElem (show 2 < ps.length by have := LEN.out; omega)]
     rfl)
    clear hcell
    have hidx : ∀ W : World, (Instr.index 183 (.agg #[.pointer (some ⟨gv, 0, none⟩), .pointer (some ⟨gv, 1, none⟩), .pointer (some ⟨gv, 2, none⟩)]) (.int .i64 2)).run Tryz.prog W = .ok (.pointer (some ⟨gv, 2, none⟩)) W := fun W => by kernel_rfl
    have hl : (2 : Int) < (ps.length : Int) := by have := LEN.out; omega
    have H := REST.out
    clear REST
    replace H := Option.bind_eq_some_iff.mp H
    obtain ⟨⟨n, ok⟩, hpn, H⟩ := H
    have PN := Aside0.mk hpn
    clear hpn
    cases ok with
    | false =>
     replace H : some impl_ParseVer.no = some (r1, r2, r3, r4, r5) := H
     simp only [impl_ParseVer.no, Option.some.injEq, Prod.mk.injEq] at H
     obtain ⟨rfl, rfl, rfl, rfl, rfl⟩ := H
     go_wp2_with (fail)
     (with_reducible refine (impl_ParseNum.calls k (rdOf ByteArray.empty ps 2) 9999 n false _ ?hgw PN.out).mono ?_)
     (case hgw => exact GW.below HG.out (zB))
     rintro e w5 ⟨rfl, hb⟩
     have n0_ := zA (below_step (zB) hb)
     have n1_ := zA (blk_below (zK BR.out) hb)
     have n2_ := zA (blk_below (zK BV.out) hb)
     have n3_ := zA (Kd.R_below (d := Kd.string) (e := 9) (base := w.heap.size) (ok := fun _ => True) (zR HO.out) hb)
     clear HB BR BV HO
     have HB := n0_
     have BR := n1_
     have BV := n2_
     have HO := n3_
     clear n0_ n1_ n2_ n3_ hb
     have hnb := NE.out
     have hnc := NE.out.symm
     have cv0 := zc2 BV.out
     have fv0 := zF BV.out 2
     have cr0 := zc0 BR.out
     have cr1 := zc1 BR.out
     have cr2 := zc2 BR.out
     have cr3 := zc3 BR.out
     have fr0 := zF BR.out 0
     have fr1 := zF BR.out 1
     have fr2 := zF BR.out 2
     have fr3 := zF BR.out 3
     go_wp2
     refine bodyPost_ret (results_ct rfl _ _ gr 32 #[.int .i64 0, .int .i64 0, .int .i64 0, .slice none 0 0] (0, 0) _ rfl (zk4 BR.out) Tryz.underlying32 rfl (by kernel_rfl)) rfl ?_
     exact ⟨_, rfl, Kd.R_nil _ _ _ _ _, zW HB.out⟩
    | true =>
     have RST := Aside0.mk H
     clear H
     go_wp2_with (fail)
     (with_reducible refine (impl_ParseNum.calls k (rdOf ByteArray.empty ps 2) 9999 n true _ ?hgw PN.out).mono ?_)
     (case hgw => exact GW.below HG.out (zB))
     rintro e w5 ⟨rfl, hb⟩
     have n0_ := zA (below_step (zB) hb)
     have n1_ := zA (blk_below (zK BR.out) hb)
     have n2_ := zA (blk_below (zK BV.out) hb)
     have n3_ := zA (Kd.R_below (d := Kd.string) (e := 9) (base := w.heap.size) (ok := fun _ => True) (zR HO.out) hb)
     clear HB BR BV HO
     have HB := n0_
     have BR := n1_
     have BV := n2_
     have HO := n3_
     clear n0_ n1_ n2_ n3_ hb
     have hnb := NE.out
     have hnc := NE.out.symm
     have cv0 := zc2 BV.out
     have fv0 := zF BV.out 2
     have cr0 := zc0 BR.out
     have cr1 := zc1 BR.out
     have cr2 := zc2 BR.out
     have cr3 := zc3 BR.out
     have fr0 := zF BR.out 0
     have fr1 := zF BR.out 1
     have fr2 := zF BR.out 2
     have fr3 := zF BR.out 3
     go_wp2
     go_roundg 0
     case measure => omega
     case rel => exact ⟨0, a, b, n, by omega, by omega, by first | rfl | go_num, by first | omega | (intro _; omega), by first | omega | (intro _; first | rfl | omega), by first | omega | (intro _; first | rfl | omega), RST, ⟨zW HB.out⟩,
      ⟨by (with_reducible repeat (first | refine blk_drewN ?_ _ | refine blk_drew ?_ | refine blk_alloc ?_ _)); refine blk_far ?_ NE.out _; (with_reducible repeat (first | refine blk_drewN ?_ _ | refine blk_drew ?_ | refine blk_alloc ?_ _)); exact BR.out⟩, ⟨by (with_reducible repeat (first | refine blk_drewN ?_ _ | refine blk_drew ?_ | refine blk_alloc ?_ _)); refine blk_put (cs := #[.int .i64 a, .int .i64 b, .int .i64 0, .slice none 0 0]) ?_ 2 _ rfl; (with_reducible repeat (first | refine blk_drewN ?_ _ | refine blk_drew ?_ | refine blk_alloc ?_ _)); exact BV.out⟩, ⟨Kd.R_set (zR HO.out) BV.out (by decide) _ _⟩⟩
   ·
    obtain rfl := hb0 (by omega); obtain rfl := hc0 (by omega)
    obtain ⟨pb, po, e_, hcell⟩ := Lb.C_string_plain (Kd.R_reads' HO.out).2.2 (by have := LEN.out; omega)
    cases e_
    have hx : wr.cell? ⟨pb, po + 1, none⟩ = some (.string (rdOf ByteArray.empty ps 1)) := hcell 1 _ (by
     unfold rdOf
     rw [List.getD_eq_getElem?_getD, show (1 : Int).toNat = 1 from rfl, List.getElem?_eq_getElem (show 1 < ps.length by have := LEN.out; omega)]
     rfl)
    clear hcell
    have hidx : ∀ W : World, (Instr.index 183 (.agg #[.pointer (some ⟨gv, 0, none⟩), .pointer (some ⟨gv, 1, none⟩), .pointer (some ⟨gv, 2, none⟩)]) (.int .i64 1)).run Tryz.prog W = .ok (.pointer (some ⟨gv, 1, none⟩)) W := fun W => by kernel_rfl
    have hl : (1 : Int) < (ps.length : Int) := by have := LEN.out; omega
    have H := REST.out
    clear REST
    replace H := Option.bind_eq_some_iff.mp H
    obtain ⟨⟨n, ok⟩, hpn, H⟩ := H
    have PN := Aside0.mk hpn
    clear hpn
    cases ok with
    | false =>
     replace H : some impl_ParseVer.no = some (r1, r2, r3, r4, r5) := H
     simp only [impl_ParseVer.no, Option.some.injEq, Prod.mk.injEq] at H
     obtain ⟨rfl, rfl, rfl, rfl, rfl⟩ := H
     go_wp2_with (fail)
     (with_reducible refine (impl_ParseNum.calls k (rdOf ByteArray.empty ps 1) 9999 n false _ ?hgw PN.out).mono ?_)
     (case hgw => exact GW.below HG.out (zB))
     rintro e w5 ⟨rfl, hb⟩
     have n0_ := zA (below_step (zB) hb)
     have n1_ := zA (blk_below (zK BR.out) hb)
     have n2_ := zA (blk_below (zK BV.out) hb)
     have n3_ := zA (Kd.R_below (d := Kd.string) (e := 9) (base := w.heap.size) (ok := fun _ => True) (zR HO.out) hb)
     clear HB BR BV HO
     have HB := n0_
     have BR := n1_
     have BV := n2_
     have HO := n3_
     clear n0_ n1_ n2_ n3_ hb
     have hnb := NE.out
     have hnc := NE.out.symm
     have cv0 := zc1 BV.out
     have fv0 := zF BV.out 1
     have cr0 := zc0 BR.out
     have cr1 := zc1 BR.out
     have cr2 := zc2 BR.out
     have cr3 := zc3 BR.out
     have fr0 := zF BR.out 0
     have fr1 := zF BR.out 1
     have fr2 := zF BR.out 2
     have fr3 := zF BR.out 3
     go_wp2
     refine bodyPost_ret (results_ct rfl _ _ gr 32 #[.int .i64 0, .int .i64 0, .int .i64 0, .slice none 0 0] (0, 0) _ rfl (zk4 BR.out) Tryz.underlying32 rfl (by kernel_rfl)) rfl ?_
     exact ⟨_, rfl, Kd.R_nil _ _ _ _ _, zW HB.out⟩
    | true =>
     have RST := Aside0.mk H
     clear H
     go_wp2_with (fail)
     (with_reducible refine (impl_ParseNum.calls k (rdOf ByteArray.empty ps 1) 9999 n true _ ?hgw PN.out).mono ?_)
     (case hgw => exact GW.below HG.out (zB))
     rintro e w5 ⟨rfl, hb⟩
     have n0_ := zA (below_step (zB) hb)
     have n1_ := zA (blk_below (zK BR.out) hb)
     have n2_ := zA (blk_below (zK BV.out) hb)
     have n3_ := zA (Kd.R_below (d := Kd.string) (e := 9) (base := w.heap.size) (ok := fun _ => True) (zR HO.out) hb)
     clear HB BR BV HO
     have HB := n0_
     have BR := n1_
     have BV := n2_
     have HO := n3_
     clear n0_ n1_ n2_ n3_ hb
     have hnb := NE.out
     have hnc := NE.out.symm
     have cv0 := zc1 BV.out
     have fv0 := zF BV.out 1
     have cr0 := zc0 BR.out
     have cr1 := zc1 BR.out
     have cr2 := zc2 BR.out
     have cr3 := zc3 BR.out
     have fr0 := zF BR.out 0
     have fr1 := zF BR.out 1
     have fr2 := zF BR.out 2
     have fr3 := zF BR.out 3
     go_wp2
     go_roundg 1
     case measure => omega
     case rel => exact ⟨1, a, n, 0, by omega, by omega, by first | rfl | go_num, by first | omega | (intro _; omega), by first | omega | (intro _; first | rfl | omega), by first | omega | (intro _; first | rfl | omega), RST, ⟨zW HB.out⟩,
      ⟨by (with_reducible repeat (first | refine blk_drewN ?_ _ | refine blk_drew ?_ | refine blk_alloc ?_ _)); refine blk_far ?_ NE.out _; (with_reducible repeat (first | refine blk_drewN ?_ _ | refine blk_drew ?_ | refine blk_alloc ?_ _)); exact BR.out⟩, ⟨by (with_reducible repeat (first | refine blk_drewN ?_ _ | refine blk_drew ?_ | refine blk_alloc ?_ _)); refine blk_put (cs := #[.int .i64 a, .int .i64 0, .int .i64 0, .slice none 0 0]) ?_ 1 _ rfl; (with_reducible repeat (first | refine blk_drewN ?_ _ | refine blk_drew ?_ | refine blk_alloc ?_ _)); exact BV.out⟩, ⟨Kd.R_set (zR HO.out) BV.out (by decide) _ _⟩⟩
   ·obtain rfl : m = 0 := by omega
    obtain rfl := ha rfl; obtain rfl := hb0 (by omega); obtain rfl := hc0 (by omega)
    obtain ⟨pb, po, e_, hcell⟩ := Lb.C_string_plain (Kd.R_reads' HO.out).2.2 (by have := LEN.out; omega)
    cases e_
    have hx : wr.cell? ⟨pb, po, none⟩ = some (.string (rdOf ByteArray.empty ps 0)) := hcell 0 _ (by
     unfold rdOf
     rw [List.getD_eq_getElem?_getD, show (0 : Int).toNat = 0 from rfl, List.getElem?_eq_getElem (show 0 < ps.length by have := LEN.out; omega)]
     rfl)
    clear hcell
    have hidx : ∀ W : World, (Instr.index 183 (.agg #[.pointer (some ⟨gv, 0, none⟩), .pointer (some ⟨gv, 1, none⟩), .pointer (some ⟨gv, 2, none⟩)]) (.int .i64 0)).run Tryz.prog W = .ok (.pointer (some ⟨gv, 0, none⟩)) W := fun W => by kernel_rfl
    have hl : (0 : Int) < (ps.length : Int) := by have := LEN.out; omega
    have H := REST.out
    clear REST
    replace H := Option.bind_eq_some_iff.mp H
    obtain ⟨⟨n, ok⟩, hpn, H⟩ := H
    have PN := Aside0.mk hpn
    clear hpn
    cases ok with
    | false =>
     replace H : some impl_ParseVer.no = some (r1, r2, r3, r4, r5) := H
     simp only [impl_ParseVer.no, Option.some.injEq, Prod.mk.injEq] at H
     obtain ⟨rfl, rfl, rfl, rfl, rfl⟩ := H
     go_wp2_with (fail)
     (with_reducible refine (impl_ParseNum.calls k (rdOf ByteArray.empty ps 0) 9999 n false _ ?hgw PN.out).mono ?_)
     (case hgw => exact GW.below HG.out (zB))
     rintro e w5 ⟨rfl, hb⟩
     have n0_ := zA (below_step (zB) hb)
     have n1_ := zA (blk_below (zK BR.out) hb)
     have n2_ := zA (blk_below (zK BV.out) hb)
     have n3_ := zA (Kd.R_below (d := Kd.string) (e := 9) (base := w.heap.size) (ok := fun _ => True) (zR HO.out) hb)
     clear HB BR BV HO
     have HB := n0_
     have BR := n1_
     have BV := n2_
     have HO := n3_
     clear n0_ n1_ n2_ n3_ hb
     have hnb := NE.out
     have hnc := NE.out.symm
     have cv0 := zc0 BV.out
     have fv0 := zF BV.out 0
     have cr0 := zc0 BR.out
     have cr1 := zc1 BR.out
     have cr2 := zc2 BR.out
     have cr3 := zc3 BR.out
     have fr0 := zF BR.out 0
     have fr1 := zF BR.out 1
     have fr2 := zF BR.out 2
     have fr3 := zF BR.out 3
     go_wp2
     refine bodyPost_ret (results_ct rfl _ _ gr 32 #[.int .i64 0, .int .i64 0, .int .i64 0, .slice none 0 0] (0, 0) _ rfl (zk4 BR.out) Tryz.underlying32 rfl (by kernel_rfl)) rfl ?_
     exact ⟨_, rfl, Kd.R_nil _ _ _ _ _, zW HB.out⟩
    | true =>
     have RST := Aside0.mk H
     clear H
     go_wp2_with (fail)
     (with_reducible refine (impl_ParseNum.calls k (rdOf ByteArray.empty ps 0) 9999 n true _ ?hgw PN.out).mono ?_)
     (case hgw => exact GW.below HG.out (zB))
     rintro e w5 ⟨rfl, hb⟩
     have n0_ := zA (below_step (zB) hb)
     have n1_ := zA (blk_below (zK BR.out) hb)
     have n2_ := zA (blk_below (zK BV.out) hb)
     have n3_ := zA (Kd.R_below (d := Kd.string) (e := 9) (base := w.heap.size) (ok := fun _ => True) (zR HO.out) hb)
     clear HB BR BV HO
     have HB := n0_
     have BR := n1_
     have BV := n2_
     have HO := n3_
     clear n0_ n1_ n2_ n3_ hb
     have hnb := NE.out
     have hnc := NE.out.symm
     have cv0 := zc0 BV.out
     have fv0 := zF BV.out 0
     have cr0 := zc0 BR.out
     have cr1 := zc1 BR.out
     have cr2 := zc2 BR.out
     have cr3 := zc3 BR.out
     have fr0 := zF BR.out 0
     have fr1 := zF BR.out 1
     have fr2 := zF BR.out 2
     have fr3 := zF BR.out 3
     go_wp2
     go_roundg 2
     case measure => omega
     case rel => exact ⟨2, n, 0, 0, by omega, by omega, by first | rfl | go_num, by first | omega | (intro _; omega), by first | omega | (intro _; first | rfl | omega), by first | omega | (intro _; first | rfl | omega), RST, ⟨zW HB.out⟩,
      ⟨by (with_reducible repeat (first | refine blk_drewN ?_ _ | refine blk_drew ?_ | refine blk_alloc ?_ _)); refine blk_far ?_ NE.out _; (with_reducible repeat (first | refine blk_drewN ?_ _ | refine blk_drew ?_ | refine blk_alloc ?_ _)); exact BR.out⟩, ⟨by (with_reducible repeat (first | refine blk_drewN ?_ _ | refine blk_drew ?_ | refine blk_alloc ?_ _)); refine blk_put (cs := #[.int .i64 0, .int .i64 0, .int .i64 0, .slice none 0 0]) ?_ 0 _ rfl; (with_reducible repeat (first | refine blk_drewN ?_ _ | refine blk_drew ?_ | refine blk_alloc ?_ _)); exact BV.out⟩, ⟨Kd.R_set (zR HO.out) BV.out (by decide) _ _⟩⟩
 ·rw [if_neg hlen] at h
  simp only [impl_ParseVer.no, Option.some.injEq, Prod.mk.injEq] at h
  obtain ⟨rfl, rfl, rfl, rfl, rfl⟩ := h
  have hl3 : ((ps.length : Int) == 3) = false := by simpa using fun e => hlen (by omega)
  have hl3' : ((ps.length : Int) != 3) = true := by simpa using fun e => hlen (by omega)
  clear hlen
  go_enter Tryz.func128, Tryz.ntmps128
  go_wp2_with (first
   | ((with_reducible refine gate_dst (N := 2) rfl ?_); refine box_event ?hg (N := 2) ?hd (cs := #[.int .i64 0, .int .i64 0, .int .i64 0, .slice none 0 0]) (t := 32) ?hr ?_; (case hd => rfl); (case hg => rfl); (case hr => first | (go_simp; done) | (go_simp; rfl)); intro gr hg w1 hbox hb; have n0_ := zA (below_step HB.out hb); have BR := Aside0.mk hbox; have GR := zA ((by rw [hg]; exact Nat.le_refl _) : w.heap.size ≤ gr); clear HB; have HB := n0_; clear n0_; clear hb hbox hg)
   | (go_at_call 165; (with_reducible refine (strings_Cut.calls a0 (⟨#[45]⟩ : ByteArray) num pre has _ ?hgw CUT.out).mono ?_); (case hgw => exact GW.below HG.out HB.out); rintro e w2 ⟨rfl, hb⟩; have n0_ := zA (below_step HB.out hb); have n1_ := zA (blk_below BR.out hb); clear HB BR; have HB := n0_; have BR := n1_; clear n0_ n1_ hb)
   | (go_at_call 81; (with_reducible refine (strings_Split.calls num (⟨#[46]⟩ : ByteArray) ps _ ?hgw SPL.out).mono ?_); (case hgw => exact GW.below HG.out HB.out); rintro e w3 ⟨v3, rfl, ho, hb⟩; have n0_ := zA (below_step HB.out hb); have n1_ := zA (blk_below BR.out hb); have HO := zA (Kd.R_lower ho (below_size HB.out)); clear HB BR; have HB := n0_; have BR := n1_; clear n0_ n1_ hb ho; obtain ⟨Ao, co, eo⟩ := Kd.R_slice HO.out; subst eo; have hnb_ := trivial; have rc0 := zc0 BR.out; have rf0 := zF BR.out 0; have rc1 := zc1 BR.out; have rf1 := zF BR.out 1; have rc2 := zc2 BR.out; have rf2 := zF BR.out 2; have rc3 := zc3 BR.out; have rf3 := zF BR.out 3))
  refine bodyPost_ret (results_ct rfl _ _ gr 32 #[.int .i64 0, .int .i64 0, .int .i64 0, .slice none 0 0] (0, 0) _ rfl (zk4 BR.out) Tryz.underlying32 rfl (by kernel_rfl)) rfl ?_
  exact ⟨_, rfl, Kd.R_nil _ _ _ _ _, zW HB.out⟩
/-! ### strings_CutPrefix: function 167 -/
def strings_CutPrefix.f (a0 a1 : ByteArray) : Option (ByteArray × Bool) := some (⟨(Lib.trimPrefix a0.data.toList a1.data.toList).toArray⟩, Lib.hasPrefix a0.data.toList a1.data.toList)
theorem strings_CutPrefix.calls (a0 a1 r1 : ByteArray) (r2 : Bool) (w : World) (h : strings_CutPrefix.f a0 a1 = some (r1, r2)) :
  Calls Tryz.prog 167 #[.string a0, .string a1] w fun e w' => e = .returned (.tuple #[.string r1, .bool r2]) ∧ Drawn0 w w' := by
 obtain ⟨rfl, rfl⟩ := Prod.mk.inj (Option.some.inj h)
 refine (Tryz.strings_CutPrefix a0 a1 w).mono ?_
 rintro e w' ⟨rfl, rfl⟩
 exact ⟨rfl, Drawn0.refl _⟩
/-! ### impl_partOf: function 168 -/
def impl_partOf.no : Int × Int × Int × List ByteArray × Int × Bool := (0, 0, 0, [], 0, false)
/-- So many pieces are left where the signs 'x' at the end fall away. -/
def impl_partOf.back (ps : List ByteArray) : Nat → Nat
 | 0 => 0
 | 1 => 1
 | t + 2 => if (rdOf ByteArray.empty ps ((t + 1 : Nat) : Int)).toList = ([120] : List UInt8) then impl_partOf.back ps (t + 1) else t + 2
/-- The last d of t pieces are still to be read; what is read so far. -/
def impl_partOf.rest (k : Nat) (ps : List ByteArray) (t : Nat) : Nat → Int → Int → Option (Int × Int × Int × List ByteArray × Int × Bool)
 | 0, x, y => some (x, y, 0, [], (t : Int), true)
 | d + 1, x, y => (impl_ParseNum.f k (rdOf ByteArray.empty ps ((t - (d + 1) : Nat) : Int)) 9999).bind fun n => if n.2 = true then (if t - (d + 1) = 0 then impl_partOf.rest k ps t d n.1 y else impl_partOf.rest k ps t d x n.1) else some impl_partOf.no
def impl_partOf.nums (k : Nat) (ps : List ByteArray) (t : Nat) : Option (Int × Int × Int × List ByteArray × Int × Bool) := if t ≤ 2 then impl_partOf.rest k ps t t 0 0 else some impl_partOf.no
def impl_partOf.f (k : Nat) (a0 : ByteArray) : Option (Int × Int × Int × List ByteArray × Int × Bool) :=
 (impl_ParseVer.f k a0).bind fun v => if v.2.2.2.2 = true then some (v.1, v.2.1, v.2.2.1, v.2.2.2.1, 3, true)
  else (strings_Split.f a0 (⟨#[46]⟩ : ByteArray)).bind fun ps => if ps.length = 0 then none else if 3 < ps.length then some impl_partOf.no else impl_partOf.nums k ps (impl_partOf.back ps ps.length)
theorem impl_partOf.back_le (ps : List ByteArray) : ∀ t, impl_partOf.back ps t ≤ t
 | 0 => Nat.le_refl _
 | 1 => Nat.le_refl _
 | t + 2 => by
  unfold impl_partOf.back
  split
  ·have := impl_partOf.back_le ps (t + 1)
   omega
  ·omega
theorem impl_partOf.calls (k : Nat) (a0 : ByteArray) (r1 r2 r3 : Int) (r4 : List ByteArray) (r5 : Int) (r6 : Bool) (w : World) (hG : GW w) (h : impl_partOf.f k a0 = some (r1, r2, r3, r4, r5, r6)) :
  Calls Tryz.prog 168 #[.string a0] w fun e w' => ∃ v3_ : Value, e = .returned (.tuple #[.agg #[.int .i64 r1, .int .i64 r2, .int .i64 r3, v3_], .int .i64 r5, .bool r6]) ∧ Kd.R Kd.string 9 w' w.heap.size (fun _ => True) v3_ r4 ∧ Below w.heap.size w w' := by
 have hu_ := Tryz.underlying32
 have HG := Aside0.mk hG
 have HB := zA (Below.refl w.heap.size w)
 clear hG
 unfold impl_partOf.f at h
 replace h := Option.bind_eq_some_iff.mp h
 obtain ⟨t, hpv, h⟩ := h
 obtain ⟨va, vb, vc, vl, vok⟩ := t
 have PV := Aside0.mk hpv
 clear hpv
 cases vok with
 | true =>
  replace h : some (va, vb, vc, vl, (3 : Int), true) = some (r1, r2, r3, r4, r5, r6) := h
  simp only [Option.some.injEq, Prod.mk.injEq] at h
  obtain ⟨rfl, rfl, rfl, rfl, rfl, rfl⟩ := h
  go_enter Tryz.func168, Tryz.ntmps168
  go_wp2_with (first
   | ((with_reducible refine zd 2 ?_); refine ze 2 32 #[.int .i64 0, .int .i64 0, .int .i64 0, .slice none 0 0] ?_; intro gr hg w1 hbox hb; have n0_ := zA (below_step (zW HB.out) hb); have BR := Aside0.mk hbox; have GR := zA ((by rw [hg]; exact below_size (zW HB.out)) : w.heap.size ≤ gr); clear HB; have HB := n0_; clear n0_ hb hbox hg)
   | (go_at_call 128; (with_reducible refine (impl_ParseVer.calls k a0 va vb vc vl _ _ ?hgw PV.out).mono ?_); (case hgw => exact GW.below HG.out (zW HB.out)); rintro e w2 ⟨v2, rfl, ho, hb⟩; have n0_ := zA (below_step (zW HB.out) hb); have n1_ := zA (blk_below (zK BR.out) hb); have HP := zA (Kd.R_lower ho (below_size (zW HB.out))); clear HB BR; have HB := n0_; have BR := n1_; clear n0_ n1_ hb ho; obtain ⟨Ao, co, eo⟩ := Kd.R_slice HP.out; subst eo; have rc0 := zc0 BR.out; have rf0 := zF BR.out 0; have rc1 := zc1 BR.out; have rf1 := zF BR.out 1; have rc2 := zc2 BR.out; have rf2 := zF BR.out 2; have rc3 := zc3 BR.out; have rf3 := zF BR.out 3)
   | ((with_reducible refine zd 5 ?_); refine ze 5 32 #[.int .i64 0, .int .i64 0, .int .i64 0, .slice none 0 0] ?_; intro gv hg w4 hbox hb; have n0_ := zA (below_step (zW HB.out) hb); have n1_ := zA (blk_below (zK BR.out) hb); have n2_ := zA (Kd.R_types (Kd.R_below (zR HP.out) hb) hbox (by decide)); have BV := Aside0.mk hbox; have GV := zA ((by rw [hg]; exact below_size (zW HB.out)) : w.heap.size ≤ gv); have NE := zA ((by rw [hg]; exact Nat.ne_of_lt (blk_lt (zK BR.out))) : gr ≠ gv); clear HB HP BR rc0 rc1 rc2 rc3 rf0 rf1 rf2 rf3; have HB := n0_; have HP := n2_; have BR := n1_; clear n0_ n2_ n1_ hb hbox hg; have hnv := trivial; have hne1 := NE.out; have hne2 := NE.out.symm; have rc0 := zc0 BR.out; have rf0 := zF BR.out 0; have rc1 := zc1 BR.out; have rf1 := zF BR.out 1; have rc2 := zc2 BR.out; have rf2 := zF BR.out 2; have rc3 := zc3 BR.out; have rf3 := zF BR.out 3; have vc0 := zc0 BV.out; have vf0 := zF BV.out 0; have vc1 := zc1 BV.out; have vf1 := zF BV.out 1; have vc2 := zc2 BV.out; have vf2 := zF BV.out 2; have vc3 := zc3 BV.out; have vf3 := zF BV.out 3))
  refine bodyPost_ret (results_ctt rfl _ _ gr 32 #[.int .i64 va, .int .i64 vb, .int .i64 vc, .slice Ao vl.length co] (0, 0) _ rfl (zk4 BR.out) Tryz.underlying32 rfl (by kernel_rfl)) rfl ?_
  exact ⟨_, rfl, by refine Kd.R_mono (?_ : Kd.R Kd.string 9 _ w.heap.size (fun k_ => (True ∧ k_ ≠ gv) ∧ k_ ≠ gr) _ _) (fun _ _ => trivial); (with_reducible repeat (first | apply Kd.R_alloc | apply Kd.R_drewN | apply Kd.R_drew | refine Kd.R_far ?_ (fun _ hk => (by first | exact hk.2 | exact hk.1.2)) _)); exact Kd.R_types HP.out BR.out (by decide), zW HB.out⟩
 | false =>
  replace h : ((strings_Split.f a0 (⟨#[46]⟩ : ByteArray)).bind fun ps => if ps.length = 0 then none else if 3 < ps.length then some impl_partOf.no else impl_partOf.nums k ps (impl_partOf.back ps ps.length)) = some (r1, r2, r3, r4, r5, r6) := h
  replace h := Option.bind_eq_some_iff.mp h
  obtain ⟨ps, hsp, h⟩ := h
  have SP := Aside0.mk hsp
  clear hsp
  have hne : ¬ ps.length = 0 := fun e => by rw [if_pos e] at h; cases h
  rw [if_neg hne] at h
  have NE0 := Aside0.mk hne
  clear hne
  by_cases h3 : 3 < ps.length
  ·rw [if_pos h3] at h
   simp only [impl_partOf.no, Option.some.injEq, Prod.mk.injEq] at h
   obtain ⟨rfl, rfl, rfl, rfl, rfl, rfl⟩ := h
   have hl3 : (ps.length : Int) > 3 := by omega
   clear h3
   go_enter Tryz.func168, Tryz.ntmps168
   go_wp2_with (first
    | ((with_reducible refine zd 2 ?_); refine ze 2 32 #[.int .i64 0, .int .i64 0, .int .i64 0, .slice none 0 0] ?_; intro gr hg w1 hbox hb; have n0_ := zA (below_step (zW HB.out) hb); have BR := Aside0.mk hbox; have GR := zA ((by rw [hg]; exact below_size (zW HB.out)) : w.heap.size ≤ gr); clear HB; have HB := n0_; clear n0_ hb hbox hg)
    | (go_at_call 128; (with_reducible refine (impl_ParseVer.calls k a0 va vb vc vl _ _ ?hgw PV.out).mono ?_); (case hgw => exact GW.below HG.out (zW HB.out)); rintro e w2 ⟨v2, rfl, ho, hb⟩; have n0_ := zA (below_step (zW HB.out) hb); have n1_ := zA (blk_below (zK BR.out) hb); have HP := zA (Kd.R_lower ho (below_size (zW HB.out))); clear HB BR; have HB := n0_; have BR := n1_; clear n0_ n1_ hb ho; obtain ⟨Ao, co, eo⟩ := Kd.R_slice HP.out; subst eo; have rc0 := zc0 BR.out; have rf0 := zF BR.out 0; have rc1 := zc1 BR.out; have rf1 := zF BR.out 1; have rc2 := zc2 BR.out; have rf2 := zF BR.out 2; have rc3 := zc3 BR.out; have rf3 := zF BR.out 3)
    | ((with_reducible refine zd 5 ?_); refine ze 5 32 #[.int .i64 0, .int .i64 0, .int .i64 0, .slice none 0 0] ?_; intro gv hg w4 hbox hb; have n0_ := zA (below_step (zW HB.out) hb); have n1_ := zA (blk_below (zK BR.out) hb); have n2_ := zA (Kd.R_types (Kd.R_below (zR HP.out) hb) hbox (by decide)); have BV := Aside0.mk hbox; have GV := zA ((by rw [hg]; exact below_size (zW HB.out)) : w.heap.size ≤ gv); have NE := zA ((by rw [hg]; exact Nat.ne_of_lt (blk_lt (zK BR.out))) : gr ≠ gv); clear HB HP BR rc0 rc1 rc2 rc3 rf0 rf1 rf2 rf3; have HB := n0_; have HP := n2_; have BR := n1_; clear n0_ n2_ n1_ hb hbox hg; have hnv := trivial; have hne1 := NE.out; have hne2 := NE.out.symm; have rc0 := zc0 BR.out; have rf0 := zF BR.out 0; have rc1 := zc1 BR.out; have rf1 := zF BR.out 1; have rc2 := zc2 BR.out; have rf2 := zF BR.out 2; have rc3 := zc3 BR.out; have rf3 := zF BR.out 3; have vc0 := zc0 BV.out; have vf0 := zF BV.out 0; have vc1 := zc1 BV.out; have vf1 := zF BV.out 1; have vc2 := zc2 BV.out; have vf2 := zF BV.out 2; have vc3 := zc3 BV.out; have vf3 := zF BV.out 3)
    | (go_at_call 81; (with_reducible refine (strings_Split.calls a0 (⟨#[46]⟩ : ByteArray) ps _ ?hgw SP.out).mono ?_); (case hgw => exact GW.below HG.out (zW HB.out)); rintro e w3 ⟨v3, rfl, ho, hb⟩; have n0_ := zA (below_step (zW HB.out) hb); have n1_ := zA (blk_below (zK BR.out) hb); have HS := zA (Kd.R_lower ho (below_size (zW HB.out))); clear HB BR rc0 rc1 rc2 rc3 rf0 rf1 rf2 rf3 vc0 vc1 vc2 vc3 vf0 vf1 vf2 vf3; have HB := n0_; have BR := n1_; clear n0_ n1_ hb ho; obtain ⟨As, cs, es⟩ := Kd.R_slice HS.out; subst es; have rc0 := zc0 BR.out; have rf0 := zF BR.out 0; have rc1 := zc1 BR.out; have rf1 := zF BR.out 1; have rc2 := zc2 BR.out; have rf2 := zF BR.out 2; have rc3 := zc3 BR.out; have rf3 := zF BR.out 3))
   refine bodyPost_ret (results_ctt rfl _ _ gr 32 #[.int .i64 0, .int .i64 0, .int .i64 0, .slice none 0 0] (0, 0) _ rfl (zk4 BR.out) Tryz.underlying32 rfl (by kernel_rfl)) rfl ?_
   exact ⟨_, rfl, Kd.R_nil _ _ _ _ _, zW HB.out⟩
  ·rw [if_neg h3] at h
   have hl3 : ¬ (ps.length : Int) > 3 := by omega
   have L3 := Aside0.mk h3
   have REST := Aside0.mk h
   clear h3 h
   go_enter Tryz.func168, Tryz.ntmps168
   go_upto_block 0 with (first
    | ((with_reducible refine zd 2 ?_); refine ze 2 32 #[.int .i64 0, .int .i64 0, .int .i64 0, .slice none 0 0] ?_; intro gr hg w1 hbox hb; have n0_ := zA (below_step (zW HB.out) hb); have BR := Aside0.mk hbox; have GR := zA ((by rw [hg]; exact below_size (zW HB.out)) : w.heap.size ≤ gr); clear HB; have HB := n0_; clear n0_ hb hbox hg)
    | (go_at_call 128; (with_reducible refine (impl_ParseVer.calls k a0 va vb vc vl _ _ ?hgw PV.out).mono ?_); (case hgw => exact GW.below HG.out (zW HB.out)); rintro e w2 ⟨v2, rfl, ho, hb⟩; have n0_ := zA (below_step (zW HB.out) hb); have n1_ := zA (blk_below (zK BR.out) hb); have HP := zA (Kd.R_lower ho (below_size (zW HB.out))); clear HB BR; have HB := n0_; have BR := n1_; clear n0_ n1_ hb ho; obtain ⟨Ao, co, eo⟩ := Kd.R_slice HP.out; subst eo; have rc0 := zc0 BR.out; have rf0 := zF BR.out 0; have rc1 := zc1 BR.out; have rf1 := zF BR.out 1; have rc2 := zc2 BR.out; have rf2 := zF BR.out 2; have rc3 := zc3 BR.out; have rf3 := zF BR.out 3)
    | ((with_reducible refine zd 5 ?_); refine ze 5 32 #[.int .i64 0, .int .i64 0, .int .i64 0, .slice none 0 0] ?_; intro gv hg w4 hbox hb; have n0_ := zA (below_step (zW HB.out) hb); have n1_ := zA (blk_below (zK BR.out) hb); have n2_ := zA (Kd.R_types (Kd.R_below (zR HP.out) hb) hbox (by decide)); have BV := Aside0.mk hbox; have GV := zA ((by rw [hg]; exact below_size (zW HB.out)) : w.heap.size ≤ gv); have NE := zA ((by rw [hg]; exact Nat.ne_of_lt (blk_lt (zK BR.out))) : gr ≠ gv); clear HB HP BR rc0 rc1 rc2 rc3 rf0 rf1 rf2 rf3; have HB := n0_; have HP := n2_; have BR := n1_; clear n0_ n2_ n1_ hb hbox hg; have hnv := trivial; have hne1 := NE.out; have hne2 := NE.out.symm; have rc0 := zc0 BR.out; have rf0 := zF BR.out 0; have rc1 := zc1 BR.out; have rf1 := zF BR.out 1; have rc2 := zc2 BR.out; have rf2 := zF BR.out 2; have rc3 := zc3 BR.out; have rf3 := zF BR.out 3; have vc0 := zc0 BV.out; have vf0 := zF BV.out 0; have vc1 := zc1 BV.out; have vf1 := zF BV.out 1; have vc2 := zc2 BV.out; have vf2 := zF BV.out 2; have vc3 := zc3 BV.out; have vf3 := zF BV.out 3)
    | (go_at_call 81; (with_reducible refine (strings_Split.calls a0 (⟨#[46]⟩ : ByteArray) ps _ ?hgw SP.out).mono ?_); (case hgw => exact GW.below HG.out (zW HB.out)); rintro e w3 ⟨v3, rfl, ho, hb⟩; have n0_ := zA (below_step (zW HB.out) hb); have n1_ := zA (blk_below (zK BR.out) hb); have HS := zA (Kd.R_lower ho (below_size (zW HB.out))); clear HB BR rc0 rc1 rc2 rc3 rf0 rf1 rf2 rf3 vc0 vc1 vc2 vc3 vf0 vf1 vf2 vf3; have HB := n0_; have BR := n1_; clear n0_ n1_ hb ho; obtain ⟨As, cs, es⟩ := Kd.R_slice HS.out; subst es; have rc0 := zc0 BR.out; have rf0 := zF BR.out 0; have rc1 := zc1 BR.out; have rf1 := zF BR.out 1; have rc2 := zc2 BR.out; have rf2 := zF BR.out 2; have rc3 := zc3 BR.out; have rf3 := zF BR.out 3))
   obtain ⟨gp, cap, ep, _⟩ := Kd.R_form HS.out (by have := NE0.out; omega)
   injection ep with ea_ _ ec_
   subst ea_
   subst ec_
   go_cut [8] (fun s8 wc => ∃ t : Nat, s8 = .int .i64 (t : Int) ∧ Aside0 (1 ≤ t ∧ t ≤ ps.length) ∧ Aside0 (impl_partOf.nums k ps t = some (r1, r2, r3, r4, r5, r6)) ∧ Aside0 (Below w.heap.size w wc) ∧ Aside0 (wc.heap[gr]? = some (.cells #[.int .i64 0, .int .i64 0, .int .i64 0, .slice none 0 0] 32 (0, 0))) ∧ Aside0 (Kd.string.R 9 wc w.heap.size (fun _ => True) (.slice (some ⟨gp, 0, none⟩) ps.length cs) ps))
   case first =>
    go_wp2_with fail
    go_loopg [8] ps.length (fun gg s8 wr => ∃ t : Nat, t ≤ gg ∧ s8 = .int .i64 (t : Int) ∧ Aside0 (1 ≤ t ∧ t ≤ ps.length) ∧ Aside0 (impl_partOf.nums k ps (impl_partOf.back ps t) = some (r1, r2, r3, r4, r5, r6)) ∧ Aside0 (Below w.heap.size w wr) ∧ Aside0 (wr.heap[gr]? = some (.cells #[.int .i64 0, .int .i64 0, .int .i64 0, .slice none 0 0] 32 (0, 0))) ∧ Aside0 (Kd.string.R 9 wr w.heap.size (fun _ => True) (.slice (some ⟨gp, 0, none⟩) ps.length cs) ps))
    case atStart => exact ⟨ps.length, Nat.le_refl _, rfl, ⟨by have := NE0.out; omega, Nat.le_refl _⟩, REST, ⟨zW HB.out⟩, ⟨zK BR.out⟩, ⟨by (with_reducible repeat (first | apply Kd.R_alloc | apply Kd.R_drewN | apply Kd.R_drew | refine Kd.R_set ?_ BN.out (by decide) _ _)); exact HS.out⟩⟩
    case round =>
     clear REST HB BR HS
     obtain ⟨t, htg, rfl, TB, REST, HB, BR, HS⟩ := hrel
     have hp_ := TB.out
     by_cases h1t : t = 1
     ·subst h1t
      have hq : ¬ ((1 : Int) > 1) := by omega
      go_wp2
      go_meet
      case rel => exact ⟨1, rfl, TB, REST, ⟨zW HB.out⟩, ⟨zK BR.out⟩, ⟨by (with_reducible repeat (first | apply Kd.R_alloc | apply Kd.R_drewN | apply Kd.R_drew | refine Kd.R_set ?_ BN.out (by decide) _ _)); exact HS.out⟩⟩
     ·obtain ⟨m, hm⟩ : ∃ m, t = m + 1 := ⟨t - 1, by omega⟩
      have hq : ((t : Int)) > 1 := by omega
      have hw : wrap64 ((t : Int) - 1) = (m : Int) := by unfold wrap64; omega
      have hl1 : (m : Int) < (ps.length : Int) := by omega
      have hl0 : (0 : Int) ≤ (m : Int) := by omega
      obtain ⟨pb, po, e_, hcell⟩ := Lb.C_string_plain (Kd.R_reads' HS.out).2.2 (by omega)
      cases e_
      have hx : wr.cell? ⟨gp, t - 1, none⟩ = some (.string (rdOf ByteArray.empty ps (m : Int))) := by
       rw [show t - 1 = m by omega]
       have := hcell m (rdOf ByteArray.empty ps (m : Int)) (by
        unfold rdOf
        rw [List.getD_eq_getElem?_getD, Int.toNat_natCast, List.getElem?_eq_getElem (show m < ps.length by omega)]
        rfl)
       rwa [Nat.zero_add] at this
      clear hcell
      have hH := REST.out
      have hback : impl_partOf.back ps t = if (rdOf ByteArray.empty ps (m : Int)).toList = ([120] : List UInt8) then impl_partOf.back ps m else t := by
       subst hm
       cases m with
       | zero => omega
       | succ m => rfl
      rw [hback] at hH
      clear REST
      by_cases he : (rdOf ByteArray.empty ps (m : Int)).toList = ([120] : List UInt8)
      ·rw [if_pos he] at hH
       have RST := Aside0.mk hH
       have s0 : ((rdOf ByteArray.empty ps (m : Int)).toList == ([120] : List UInt8)) = true := beq_iff_eq.mpr he
       have HM := Aside0.mk hm
       clear he hH hback hm
       go_wp2
       go_roundg m
       case measure => have := HM.out; omega
       case rel => exact ⟨m, Nat.le_refl _, by first | rfl | (congr 1; have := HM.out; omega), ⟨by have := HM.out; omega, by have := HM.out; omega⟩, RST, ⟨zW HB.out⟩, ⟨zK BR.out⟩, ⟨by (with_reducible repeat (first | apply Kd.R_alloc | apply Kd.R_drewN | apply Kd.R_drew | refine Kd.R_set ?_ BN.out (by decide) _ _)); exact HS.out⟩⟩
      ·rw [if_neg he] at hH
       have RST := Aside0.mk hH
       have s0 : ((rdOf ByteArray.empty ps (m : Int)).toList == ([120] : List UInt8)) = false := beq_eq_false_iff_ne.mpr he
       clear he hH hback hm
       go_wp2
       go_meet
       case rel => exact ⟨t, rfl, TB, RST, ⟨zW HB.out⟩, ⟨zK BR.out⟩, ⟨by (with_reducible repeat (first | apply Kd.R_alloc | apply Kd.R_drewN | apply Kd.R_drew | refine Kd.R_set ?_ BN.out (by decide) _ _)); exact HS.out⟩⟩
   case rest =>
    clear REST HB BR HS
    obtain ⟨t, rfl, TB, REST, HB, BR, HS⟩ := hcut
    have H := REST.out
    clear REST
    unfold impl_partOf.nums at H
    have hp_ := TB.out
    by_cases h2 : t ≤ 2
    ·rw [if_pos h2] at H
     have RST := Aside0.mk H
     clear H
     have hq : ¬ ((t : Int) > 2) := by omega
     have hq0 : (0 : Int) ≤ (t : Int) := by omega
     have hq1 : (t : Int) ≤ (ps.length : Int) := by omega
     have hq2 : (t : Int) ≤ (cs : Int) := by have := (Kd.R_reads' HS.out).2.1; omega
     have htn : ((t : Int)).toNat = t := by omega
     go_wp2_with (first
      | ((with_reducible refine zd 9 ?_); refine ze 9 202 #[.int .i64 0, .int .i64 0] ?_; intro gn hg w5 hbox hb; have n0_ := zA (below_step (zW HB.out) hb); have n1_ := zA (blk_below (zK BR.out) hb); have n2_ := zA (Kd.R_below (by (with_reducible repeat (first | apply Kd.R_alloc | apply Kd.R_drewN | apply Kd.R_drew | refine Kd.R_set ?_ BN.out (by decide) _ _)); exact HS.out) hb); have BN := Aside0.mk hbox; have GN := zA ((by rw [hg]; exact below_size (zW HB.out)) : w.heap.size ≤ gn); have NN := zA ((by rw [hg]; exact Nat.ne_of_lt (blk_lt (zK BR.out))) : gr ≠ gn); clear HB BR HS; have HB := n0_; have BR := n1_; have HS := n2_; clear n0_ n1_ n2_ hb hbox hg))
     go_loopg [47] t (fun gg s47 wr => ∃ (m : Nat) (x y : Int), m ≤ t ∧ t - m ≤ gg ∧ s47 = .int .i64 (m : Int) ∧ (m = 0 → x = 0) ∧ (m ≤ 1 → y = 0) ∧ Aside0 (impl_partOf.rest k ps t (t - m) x y = some (r1, r2, r3, r4, r5, r6)) ∧ Aside0 (Below w.heap.size w wr) ∧ Aside0 (wr.heap[gr]? = some (.cells #[.int .i64 0, .int .i64 0, .int .i64 0, .slice none 0 0] 32 (0, 0))) ∧ Aside0 (wr.heap[gn]? = some (.cells #[.int .i64 x, .int .i64 y] 202 (0, 0))) ∧ Aside0 (Kd.string.R 9 wr w.heap.size (fun _ => True) (.slice (some ⟨gp, 0, none⟩) ps.length cs) ps))
     case atStart => exact ⟨0, 0, 0, by omega, by omega, rfl, fun _ => rfl, fun _ => rfl, RST, ⟨zW HB.out⟩, ⟨zK BR.out⟩, ⟨zK BN.out⟩, ⟨by (with_reducible repeat (first | apply Kd.R_alloc | apply Kd.R_drewN | apply Kd.R_drew | refine Kd.R_set ?_ BN.out (by decide) _ _)); exact HS.out⟩⟩
     case round =>
      clear RST HB BR HS BN
      obtain ⟨m, x, y, hmt, hmg, rfl, hx0, hy0, REST, HB, BR, BN, HS⟩ := hrel
      have H := REST.out
      clear REST
      by_cases hm : m = t
      ·subst hm
       rw [Nat.sub_self] at H
       replace H : some (x, y, (0 : Int), ([] : List ByteArray), (m : Int), true) = some (r1, r2, r3, r4, r5, r6) := H
       simp only [Option.some.injEq, Prod.mk.injEq] at H
       obtain ⟨rfl, rfl, rfl, rfl, rfl, rfl⟩ := H
       have hlt : ¬ ((m : Int) < (m : Int)) := by omega
       have hnn := NN.out.symm
       have nc0 := zc0 BN.out
       have nc1 := zc1 BN.out
       (have rc0 := zc0 BR.out; have rf0 := zF BR.out 0; have rc1 := zc1 BR.out; have rf1 := zF BR.out 1; have rc2 := zc2 BR.out; have rf2 := zF BR.out 2; have rc3 := zc3 BR.out; have rf3 := zF BR.out 3)
       go_wp2
       refine bodyPost_ret (results_ctt rfl _ _ gr 32 #[.int .i64 x, .int .i64 y, .int .i64 0, .slice none 0 0] (0, 0) _ rfl (zk4 BR.out) Tryz.underlying32 rfl (by kernel_rfl)) rfl ?_
       exact ⟨_, rfl, Kd.R_nil _ _ _ _ _, zW HB.out⟩
      ·obtain ⟨d, hd⟩ : ∃ d, t - m = d + 1 := ⟨t - m - 1, by omega⟩
       rw [hd] at H
       have htm : t - (d + 1) = m := by omega
       replace H : ((impl_ParseNum.f k (rdOf ByteArray.empty ps ((t - (d + 1) : Nat) : Int)) 9999).bind fun n => if n.2 = true then (if t - (d + 1) = 0 then impl_partOf.rest k ps t d n.1 y else impl_partOf.rest k ps t d x n.1) else some impl_partOf.no) = some (r1, r2, r3, r4, r5, r6) := H
       rw [htm] at H
       replace H := Option.bind_eq_some_iff.mp H
       obtain ⟨⟨n, ok⟩, hpn, H⟩ := H
       have PN := Aside0.mk hpn
       clear hpn
       have hlt : (m : Int) < (t : Int) := by omega
       have hm0 : (0 : Int) ≤ (m : Int) := by omega
       obtain ⟨pb, po, e_, hcell⟩ := Lb.C_string_plain (Kd.R_reads' HS.out).2.2 (by omega)
       cases e_
       have hx : wr.cell? ⟨gp, m, none⟩ = some (.string (rdOf ByteArray.empty ps (m : Int))) := by
        have := hcell m (rdOf ByteArray.empty ps (m : Int)) (by
         unfold rdOf
         rw [List.getD_eq_getElem?_getD, Int.toNat_natCast, List.getElem?_eq_getElem (show m < ps.length by omega)]
         rfl)
        rwa [Nat.zero_add] at this
       clear hcell
       cases ok with
       | false =>
        replace H : some impl_partOf.no = some (r1, r2, r3, r4, r5, r6) := H
        simp only [impl_partOf.no, Option.some.injEq, Prod.mk.injEq] at H
        obtain ⟨rfl, rfl, rfl, rfl, rfl, rfl⟩ := H
        rcases (show m = 0 ∨ m = 1 by omega) with rfl | rfl
        ·have PN1 := PN.out
         clear PN
         have PN := zA (show impl_ParseNum.f k (rdOf ByteArray.empty ps 0) 9999 = some (n, false) from PN1)
         clear PN1
         go_wp2_with (first
          | (go_at_call 166; (with_reducible refine (impl_ParseNum.calls k _ 9999 n false _ ?hgw PN.out).mono ?_); (case hgw => exact GW.below HG.out (zW HB.out)); rintro e w6 ⟨rfl, hb⟩; have n0_ := zA (below_step (zW HB.out) hb); have n1_ := zA (blk_below (zK BR.out) hb); have n2_ := zA (Kd.R_below (by (with_reducible repeat (first | apply Kd.R_alloc | apply Kd.R_drewN | apply Kd.R_drew | refine Kd.R_set ?_ BN.out (by decide) _ _)); exact HS.out) hb); have n3_ := zA (blk_below (zK BN.out) hb); clear HB BR HS BN; have HB := n0_; have BR := n1_; have HS := n2_; have BN := n3_; clear n0_ n1_ n2_ n3_ hb; have hnn := NN.out; have hnn2 := NN.out.symm; have rc0 := zc0 BR.out; have rf0 := zF BR.out 0; have rc1 := zc1 BR.out; have rf1 := zF BR.out 1; have rc2 := zc2 BR.out; have rf2 := zF BR.out 2; have rc3 := zc3 BR.out; have rf3 := zF BR.out 3; have nc0 := zc0 BN.out; have nf0 := zF BN.out 0; have nc1 := zc1 BN.out; have nf1 := zF BN.out 1))
         refine bodyPost_ret (results_ctt rfl _ _ gr 32 #[.int .i64 0, .int .i64 0, .int .i64 0, .slice none 0 0] (0, 0) _ rfl (zk4 BR.out) Tryz.underlying32 rfl (by kernel_rfl)) rfl ?_
         exact ⟨_, rfl, Kd.R_nil _ _ _ _ _, zW HB.out⟩
        ·have PN1 := PN.out
         clear PN
         have PN := zA (show impl_ParseNum.f k (rdOf ByteArray.empty ps 1) 9999 = some (n, false) from PN1)
         clear PN1
         go_wp2_with (first
          | (go_at_call 166; (with_reducible refine (impl_ParseNum.calls k _ 9999 n false _ ?hgw PN.out).mono ?_); (case hgw => exact GW.below HG.out (zW HB.out)); rintro e w6 ⟨rfl, hb⟩; have n0_ := zA (below_step (zW HB.out) hb); have n1_ := zA (blk_below (zK BR.out) hb); have n2_ := zA (Kd.R_below (by (with_reducible repeat (first | apply Kd.R_alloc | apply Kd.R_drewN | apply Kd.R_drew | refine Kd.R_set ?_ BN.out (by decide) _ _)); exact HS.out) hb); have n3_ := zA (blk_below (zK BN.out) hb); clear HB BR HS BN; have HB := n0_; have BR := n1_; have HS := n2_; have BN := n3_; clear n0_ n1_ n2_ n3_ hb; have hnn := NN.out; have hnn2 := NN.out.symm; have rc0 := zc0 BR.out; have rf0 := zF BR.out 0; have rc1 := zc1 BR.out; have rf1 := zF BR.out 1; have rc2 := zc2 BR.out; have rf2 := zF BR.out 2; have rc3 := zc3 BR.out; have rf3 := zF BR.out 3; have nc0 := zc0 BN.out; have nf0 := zF BN.out 0; have nc1 := zc1 BN.out; have nf1 := zF BN.out 1))
         refine bodyPost_ret (results_ctt rfl _ _ gr 32 #[.int .i64 0, .int .i64 0, .int .i64 0, .slice none 0 0] (0, 0) _ rfl (zk4 BR.out) Tryz.underlying32 rfl (by kernel_rfl)) rfl ?_
         exact ⟨_, rfl, Kd.R_nil _ _ _ _ _, zW HB.out⟩
       | true =>
        replace H : (if m = 0 then impl_partOf.rest k ps t d n y else impl_partOf.rest k ps t d x n) = some (r1, r2, r3, r4, r5, r6) := H
        rcases (show m = 0 ∨ m = 1 by omega) with rfl | rfl
        ·rw [if_pos rfl] at H
         have PN1 := PN.out
         clear PN
         have PN := zA (show impl_ParseNum.f k (rdOf ByteArray.empty ps 0) 9999 = some (n, true) from PN1)
         clear PN1
         have RST := zA (show impl_partOf.rest k ps t (t - 1) n y = some (r1, r2, r3, r4, r5, r6) by rw [show t - 1 = d by omega]; exact H)
         clear H
         go_wp2_with (first
          | (go_at_call 166; (with_reducible refine (impl_ParseNum.calls k _ 9999 n true _ ?hgw PN.out).mono ?_); (case hgw => exact GW.below HG.out (zW HB.out)); rintro e w6 ⟨rfl, hb⟩; have n0_ := zA (below_step (zW HB.out) hb); have n1_ := zA (blk_below (zK BR.out) hb); have n2_ := zA (Kd.R_below (by (with_reducible repeat (first | apply Kd.R_alloc | apply Kd.R_drewN | apply Kd.R_drew | refine Kd.R_set ?_ BN.out (by decide) _ _)); exact HS.out) hb); have n3_ := zA (blk_below (zK BN.out) hb); clear HB BR HS BN; have HB := n0_; have BR := n1_; have HS := n2_; have BN := n3_; clear n0_ n1_ n2_ n3_ hb; have hnn := NN.out; have hnn2 := NN.out.symm; have rc0 := zc0 BR.out; have rf0 := zF BR.out 0; have rc1 := zc1 BR.out; have rf1 := zF BR.out 1; have rc2 := zc2 BR.out; have rf2 := zF BR.out 2; have rc3 := zc3 BR.out; have rf3 := zF BR.out 3; have nc0 := zc0 BN.out; have nf0 := zF BN.out 0; have nc1 := zc1 BN.out; have nf1 := zF BN.out 1))
         go_roundg (t - 1)
         case measure => omega
         case rel => exact ⟨1, n, y, by omega, by omega, by first | rfl | go_num, fun h_ => by omega, fun _ => hy0 (by omega), RST, ⟨zW HB.out⟩, ⟨zK BR.out⟩, ⟨by (with_reducible repeat (first | refine blk_drewN ?_ _ | refine blk_drew ?_ | refine blk_alloc ?_ _)); refine blk_put (cs := #[.int .i64 x, .int .i64 y]) ?_ 0 _ rfl; (with_reducible repeat (first | refine blk_drewN ?_ _ | refine blk_drew ?_ | refine blk_alloc ?_ _)); exact BN.out⟩, ⟨by (with_reducible repeat (first | apply Kd.R_alloc | apply Kd.R_drewN | apply Kd.R_drew | refine Kd.R_set ?_ BN.out (by decide) _ _)); exact HS.out⟩⟩
        ·rw [if_neg (by omega)] at H
         have PN1 := PN.out
         clear PN
         have PN := zA (show impl_ParseNum.f k (rdOf ByteArray.empty ps 1) 9999 = some (n, true) from PN1)
         clear PN1
         have RST := zA (show impl_partOf.rest k ps t (t - 2) x n = some (r1, r2, r3, r4, r5, r6) by rw [show t - 2 = d by omega]; exact H)
         clear H
         go_wp2_with (first
          | (go_at_call 166; (with_reducible refine (impl_ParseNum.calls k _ 9999 n true _ ?hgw PN.out).mono ?_); (case hgw => exact GW.below HG.out (zW HB.out)); rintro e w6 ⟨rfl, hb⟩; have n0_ := zA (below_step (zW HB.out) hb); have n1_ := zA (blk_below (zK BR.out) hb); have n2_ := zA (Kd.R_below (by (with_reducible repeat (first | apply Kd.R_alloc | apply Kd.R_drewN | apply Kd.R_drew | refine Kd.R_set ?_ BN.out (by decide) _ _)); exact HS.out) hb); have n3_ := zA (blk_below (zK BN.out) hb); clear HB BR HS BN; have HB := n0_; have BR := n1_; have HS := n2_; have BN := n3_; clear n0_ n1_ n2_ n3_ hb; have hnn := NN.out; have hnn2 := NN.out.symm; have rc0 := zc0 BR.out; have rf0 := zF BR.out 0; have rc1 := zc1 BR.out; have rf1 := zF BR.out 1; have rc2 := zc2 BR.out; have rf2 := zF BR.out 2; have rc3 := zc3 BR.out; have rf3 := zF BR.out 3; have nc0 := zc0 BN.out; have nf0 := zF BN.out 0; have nc1 := zc1 BN.out; have nf1 := zF BN.out 1))
         go_roundg (t - 2)
         case measure => omega
         case rel => exact ⟨2, x, n, by omega, by omega, by first | rfl | go_num, fun h_ => by omega, fun h_ => by omega, RST, ⟨zW HB.out⟩, ⟨zK BR.out⟩, ⟨by (with_reducible repeat (first | refine blk_drewN ?_ _ | refine blk_drew ?_ | refine blk_alloc ?_ _)); refine blk_put (cs := #[.int .i64 x, .int .i64 y]) ?_ 1 _ rfl; (with_reducible repeat (first | refine blk_drewN ?_ _ | refine blk_drew ?_ | refine blk_alloc ?_ _)); exact BN.out⟩, ⟨by (with_reducible repeat (first | apply Kd.R_alloc | apply Kd.R_drewN | apply Kd.R_drew | refine Kd.R_set ?_ BN.out (by decide) _ _)); exact HS.out⟩⟩
    ·rw [if_neg h2] at H
     simp only [impl_partOf.no, Option.some.injEq, Prod.mk.injEq] at H
     obtain ⟨rfl, rfl, rfl, rfl, rfl, rfl⟩ := H
     have hq : (t : Int) > 2 := by omega
     (have rc0 := zc0 BR.out; have rf0 := zF BR.out 0; have rc1 := zc1 BR.out; have rf1 := zF BR.out 1; have rc2 := zc2 BR.out; have rf2 := zF BR.out 2; have rc3 := zc3 BR.out; have rf3 := zF BR.out 3)
     go_wp2
     refine bodyPost_ret (results_ctt rfl _ _ gr 32 #[.int .i64 0, .int .i64 0, .int .i64 0, .slice none 0 0] (0, 0) _ rfl (zk4 BR.out) Tryz.underlying32 rfl (by kernel_rfl)) rfl ?_
     exact ⟨_, rfl, Kd.R_nil _ _ _ _ _, zW HB.out⟩
/-! ### impl_nextOf: function 191 -/
def impl_nextOf.f (a0_0 a0_1 a0_2 : Int) (l0_3 : List ByteArray) (a1 : Int) : Option (Int × Int × Int × List ByteArray) := if a1 = 1 then (some (wrap64 (a0_0 + 1), 0, 0, ([] : List ByteArray))) else (if a1 = 2 then (some (a0_0, wrap64 (a0_1 + 1), 0, ([] : List ByteArray))) else (some (a0_0, a0_1, wrap64 (a0_2 + 1), ([] : List ByteArray))))
theorem impl_nextOf.calls (a0_0 a0_1 a0_2 : Int) (A0_3 : Option Addr) (c0_3 : Nat) (l0_3 : List ByteArray) (a1 r1 r2 r3 : Int) (r4 : List ByteArray) (w : World) (hr0_3 : Kd.C Kd.string w A0_3 l0_3.length l0_3) (hc0_3 : l0_3.length ≤ c0_3) (h : impl_nextOf.f a0_0 a0_1 a0_2 l0_3 a1 = some (r1, r2, r3, r4)) :
  Calls Tryz.prog 191 #[.agg #[.int .i64 a0_0, .int .i64 a0_1, .int .i64 a0_2, .slice A0_3 l0_3.length c0_3], .int .i64 a1] w fun e w' => ∃ v3_ : Value, e = .returned (.agg #[.int .i64 r1, .int .i64 r2, .int .i64 r3, v3_]) ∧ Kd.R Kd.string 9 w' w.heap.size (fun _ => True) v3_ r4 ∧ Below w.heap.size w w' := by
 have hu32 := Tryz.underlying32
 have HR0_3 := Aside0.mk hr0_3
 have HC0_3 := Aside0.mk hc0_3
 clear hr0_3 hc0_3
 have HB := zA (Below.refl w.heap.size w)
 unfold impl_nextOf.f at h
 have H := h
 clear h
 go_enter Tryz.func191, Tryz.ntmps191
 go_upto_if 6 with (first | ((with_reducible refine zd 2 ?_); refine ze 2 32 #[.int .i64 a0_0, .int .i64 a0_1, .int .i64 a0_2, .slice A0_3 l0_3.length c0_3] ?_; intro gb487 hg w4 hbox hb; have BK487 := zA (hbox); have GW487 := zi HB hg; have GE487 := zi HB hg; replace HB := zA (below_step (zB) hb); clear hb hbox hg) | ((with_reducible refine zd 4 ?_); refine ze 4 32 #[.int .i64 0, .int .i64 0, .int .i64 0, .slice none 0 0] ?_; intro gb488 hg w5 hbox hb; have BK488 := zA (hbox); have GW488 := zi HB hg; have GE488 := zi HB hg; replace HB := zh HB hb; have NB487_488 := zA (zL hg (zK BK487.out)); have NB488_487 := zA (zJ hg (zK BK487.out)); replace BK487 := zb BK487 hb; clear hb hbox hg; have hnb6 := NB487_488.out; have hnc6 := NB488_487.out; obtain ⟨hcz7_0, hcz7_1, hcz7_2, hcz7_3, hfz7_0, hfz7_1, hfz7_2, hfz7_3⟩ := ze4 BK487.out; obtain ⟨hcz8_0, hcz8_1, hcz8_2, hcz8_3, hfz8_0, hfz8_1, hfz8_2, hfz8_3⟩ := ze4 BK488.out))
 (try simp only [Act.put, zT])
 replace H := zI1 H
 rcases H with ⟨c3, H⟩ | ⟨c3, H⟩
 ·have c3b0 := beq_iff_eq.mpr c3
  have c3b1 := bne_eq_false_iff_eq.mpr c3
  clear c3
  simp only [Option.some.injEq, Prod.mk.injEq] at H
  obtain ⟨rfl, rfl, rfl, rfl⟩ := H
  (try simp only [c3b0, c3b1])
  go_wp2
  refine bodyPost_ret (results_cell_row rfl _ _ gb488 32 #[.int .i64 (wrap64 (a0_0 + 1)), .int .i64 0, .int .i64 0, .slice none 0 0] (0, 0) _ rfl (zk4 BK488.out) Tryz.underlying32 rfl (by kernel_rfl)) rfl ?_
  exact ⟨_, zE, by first | exact Kd.R_nil _ _ _ _ _ | exact Kd.N_nil _ _ _ _ _ | exact Kd.V_nil _ _ _ _ _ | exact Kd.Q_nil _ _ _ _ _ | exact Kd.S_nil _ _ _ _ _, zW HB.out⟩
 ·have c3b0 := beq_eq_false_iff_ne.mpr c3
  have c3b1 := bne_iff_ne.mpr c3
  replace H := zI1 H
  rcases H with ⟨c9, H⟩ | ⟨c9, H⟩
  ·have c9b0 := beq_iff_eq.mpr c9
   have c9b1 := bne_eq_false_iff_eq.mpr c9
   clear c9
   simp only [Option.some.injEq, Prod.mk.injEq] at H
   obtain ⟨rfl, rfl, rfl, rfl⟩ := H
   (try simp only [c3b0, c3b1, c9b0, c9b1])
   go_wp2
   refine bodyPost_ret (results_cell_row rfl _ _ gb488 32 #[.int .i64 a0_0, .int .i64 (wrap64 (a0_1 + 1)), .int .i64 0, .slice none 0 0] (0, 0) _ rfl (zk4 BK488.out) Tryz.underlying32 rfl (by kernel_rfl)) rfl ?_
   exact ⟨_, zE, by first | exact Kd.R_nil _ _ _ _ _ | exact Kd.N_nil _ _ _ _ _ | exact Kd.V_nil _ _ _ _ _ | exact Kd.Q_nil _ _ _ _ _ | exact Kd.S_nil _ _ _ _ _, zW HB.out⟩
  ·have c9b0 := beq_eq_false_iff_ne.mpr c9
   have c9b1 := bne_iff_ne.mpr c9
   simp only [Option.some.injEq, Prod.mk.injEq] at H
   obtain ⟨rfl, rfl, rfl, rfl⟩ := H
   (try simp only [c3b0, c3b1, c9b0, c9b1])
   go_wp2
   refine bodyPost_ret (results_cell_row rfl _ _ gb488 32 #[.int .i64 a0_0, .int .i64 a0_1, .int .i64 (wrap64 (a0_2 + 1)), .slice none 0 0] (0, 0) _ rfl (zk4 BK488.out) Tryz.underlying32 rfl (by kernel_rfl)) rfl ?_
   exact ⟨_, zE, by first | exact Kd.R_nil _ _ _ _ _ | exact Kd.N_nil _ _ _ _ _ | exact Kd.V_nil _ _ _ _ _ | exact Kd.Q_nil _ _ _ _ _ | exact Kd.S_nil _ _ _ _ _, zW HB.out⟩
/-! ### impl_below: function 192 -/
def impl_below.f (a0_0 a0_1 a0_2 : Int) (l0_3 : List ByteArray) : Option (Int × Int × Int × Int × List ByteArray) := some (1, a0_0, a0_1, a0_2, (([(⟨#[48]⟩ : ByteArray)] : List ByteArray)))
theorem impl_below.calls (a0_0 a0_1 a0_2 : Int) (A0_3 : Option Addr) (c0_3 : Nat) (l0_3 : List ByteArray) (r1 r2 r3 r4 : Int) (r5 : List ByteArray) (w : World) (hr0_3 : Kd.C Kd.string w A0_3 l0_3.length l0_3) (hc0_3 : l0_3.length ≤ c0_3) (h : impl_below.f a0_0 a0_1 a0_2 l0_3 = some (r1, r2, r3, r4, r5)) :
  Calls Tryz.prog 192 #[.agg #[.int .i64 a0_0, .int .i64 a0_1, .int .i64 a0_2, .slice A0_3 l0_3.length c0_3]] w fun e w' => ∃ v4_ : Value, e = .returned (.agg #[.int .i64 r1, .int .i64 r2, .int .i64 r3, .int .i64 r4, v4_]) ∧ Kd.R Kd.string 9 w' w.heap.size (fun _ => True) v4_ r5 ∧ Below w.heap.size w w' := by
 have hu32 := Tryz.underlying32
 have hu75 := Tryz.underlying75
 have HR0_3 := Aside0.mk hr0_3
 have HC0_3 := Aside0.mk hc0_3
 clear hr0_3 hc0_3
 have HB := zA (Below.refl w.heap.size w)
 unfold impl_below.f at h
 have H := h
 clear h
 obtain ⟨y491, hy491⟩ : ∃ y_ : List ByteArray, y_ = (([(⟨#[48]⟩ : ByteArray)] : List ByteArray)) := ⟨_, rfl⟩
 replace H : (some (1, a0_0, a0_1, a0_2, y491)) = some (r1, r2, r3, r4, r5) := zY hy491 H
 have Ny491 := Aside0.mk hy491
 clear hy491
 simp only [Option.some.injEq, Prod.mk.injEq] at H
 obtain ⟨rfl, rfl, rfl, rfl, rfl⟩ := H
 go_enter Tryz.func192, Tryz.ntmps192
 go_wp2_with (first | ((with_reducible refine zd 1 ?_); refine ze 1 32 #[.int .i64 a0_0, .int .i64 a0_1, .int .i64 a0_2, .slice A0_3 l0_3.length c0_3] ?_; intro gb489 hg w2 hbox hb; have BK489 := zA (hbox); have GW489 := zi HB hg; have GE489 := zi HB hg; replace HB := zA (below_step (zB) hb); clear hb hbox hg) | ((with_reducible refine zd 2 ?_); refine ze 2 75 #[.int .i64 0, .int .i64 0, .int .i64 0, .int .i64 0, .slice none 0 0] ?_; intro gb490 hg w3 hbox hb; have BK490 := zA (hbox); have GW490 := zi HB hg; have GE490 := zi HB hg; replace HB := zh HB hb; have NB489_490 := zA (zL hg (zK BK489.out)); have NB490_489 := zA (zJ hg (zK BK489.out)); replace BK489 := zb BK489 hb; clear hb hbox hg) | ((with_reducible refine gate_dst (N := 3) rfl ?_); refine Kd.R_lit Kd.string _ 9 ?hg (N := 3) ?hd (xs := ([(⟨#[48]⟩ : ByteArray)] : List ByteArray)) (inner := [.string (⟨#[48]⟩ : ByteArray)]) (ok := fun _ => True) ?hr ?hp (fun _ hk => hk) trivial (Below.refl _ _) (Nat.le_refl _) (by simp) ?_; (case hd => rfl); (case hg => rfl); (case hr => first | (go_simp; done) | (go_simp; rfl)); (case hp => exact (Reps.one (show Kd.M Kd.string _ _ _ (⟨#[48]⟩ : ByteArray) [.string (⟨#[48]⟩ : ByteArray)] from rfl) (Reps.none _ _))); intro v492 w4 ho5 hb hg_ hnew_; clear hg_ hnew_; (first | rw [← Ny491.out] at ho5 | (simp only [Int.reduceToNat] at ho5; rw [← Ny491.out] at ho5)); have HO493 := zA (Kd.R_lower ho5 (below_size (zW HB.out))); replace BK489 := zb BK489 hb; replace BK490 := zb BK490 hb; replace HB := zh HB hb; clear hb ho5; obtain ⟨Ao6, co6, eo6⟩ := Kd.R_slice HO493.out; subst eo6; have hnb7 := NB489_490.out; have hnc7 := NB490_489.out; obtain ⟨hcz8_0, hcz8_1, hcz8_2, hcz8_3, hfz8_0, hfz8_1, hfz8_2, hfz8_3⟩ := ze4 BK489.out; obtain ⟨hcz9_0, hcz9_1, hcz9_2, hcz9_3, hcz9_4, hfz9_0, hfz9_1, hfz9_2, hfz9_3, hfz9_4⟩ := ze5 BK490.out))
 refine bodyPost_ret (results_cell_row rfl _ _ gb490 75 #[.int .i64 1, .int .i64 a0_0, .int .i64 a0_1, .int .i64 a0_2, .slice Ao6 y491.length co6] (0, 0) _ rfl (zk5 BK490.out) Tryz.underlying75 rfl (by kernel_rfl)) rfl ?_
 exact ⟨_, zE, zR (Kd.R_mono (Kd.R_far (p := ⟨gb490, 4, none⟩) (Kd.R_far (p := ⟨gb490, 3, none⟩) (Kd.R_far (p := ⟨gb490, 2, none⟩) (Kd.R_far (p := ⟨gb490, 1, none⟩) (Kd.R_far (p := ⟨gb490, 0, none⟩) (Kd.R_far (p := ⟨gb489, 3, none⟩) (Kd.R_types (Kd.R_types HO493.out BK489.out (by decide)) BK490.out (by decide)) (fun _ hk => hk.1.2) (.slice Ao6 y491.length co6)) (fun _ hk => hk.2) (.int .i64 1)) (fun _ hk => hk.2) (.int .i64 a0_0)) (fun _ hk => hk.2) (.int .i64 a0_1)) (fun _ hk => hk.2) (.int .i64 a0_2)) (fun _ hk => hk.2) (.slice Ao6 y491.length co6)) (fun _ hk => trivial)), zW HB.out⟩
end Go.Proofs.YtpcdhoeoefoeoaaGreatDoor.PGA
