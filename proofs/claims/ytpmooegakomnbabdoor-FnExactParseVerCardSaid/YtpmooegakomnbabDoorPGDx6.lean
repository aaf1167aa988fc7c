/- The walks of the functions that these laws reach, and what each comes to: printed by this session's program. -/
import Derived.Test.YtpmooegakomnbabDoorPGDx0
import Derived.Test.YtpmooegakomnbabDoorPGDx3
import Derived.Test.YtpmooegakomnbabDoorPGDx5
namespace Go.Proofs.YtpmooegakomnbabDoor.PGD
open Go.RowKit Go.Proofs.YtpmooegakomnbabDoorW.PrintWords Go.Proofs.YtpmooegakomnbabDoorW.PrintLast Go.Proofs.YtpmooegakomnbabDoorW.PrintMore
attribute [local go_sem high] Go.Proofs.YtpmooegakomnbabDoor.Mine.str_gtr Go.Proofs.YtpmooegakomnbabDoor.Mine.str_leq Go.Proofs.YtpmooegakomnbabDoor.Mine.str_geq
attribute [local go_sem] max2_int min2_int max_two min_two max_three min_three max_four min_four   -- for this text's walks alone
set_option linter.unusedVariables false
set_option linter.unusedSimpArgs false

/-! ### impl_ParseVer: function 26 -/
def impl_ParseVer.no : Int × Int × Int × List ByteArray × Bool := (0, 0, 0, [], false)
/-- The numbers are read: what stands behind the dash, and whether all is told so. -/
def impl_ParseVer.fin (k : Nat) (a0 pre : ByteArray) (has : Bool) (a b c : Int) : Option (Int × Int × Int × List ByteArray × Bool) :=
  if has = true then (strings_Split.f pre (⟨#[46]⟩ : ByteArray)).bind fun q => (impl_VerText.f k a b c q).bind fun t => if t.toList = a0.toList then some (a, b, c, q, true) else some impl_ParseVer.no
  else (impl_VerText.f k a b c []).bind fun t => if t.toList = a0.toList then some (a, b, c, [], true) else some impl_ParseVer.no
def impl_ParseVer.n1 (k : Nat) (a0 pre : ByteArray) (has : Bool) (ps : List ByteArray) (a b : Int) : Option (Int × Int × Int × List ByteArray × Bool) := (impl_ParseNum.f k (rdOf ByteArray.empty ps 2) 9999).bind fun t => if t.2 = true then impl_ParseVer.fin k a0 pre has a b t.1 else some impl_ParseVer.no
def impl_ParseVer.n2 (k : Nat) (a0 pre : ByteArray) (has : Bool) (ps : List ByteArray) (a : Int) : Option (Int × Int × Int × List ByteArray × Bool) := (impl_ParseNum.f k (rdOf ByteArray.empty ps 1) 9999).bind fun t => if t.2 = true then impl_ParseVer.n1 k a0 pre has ps a t.1 else some impl_ParseVer.no
def impl_ParseVer.n3 (k : Nat) (a0 pre : ByteArray) (has : Bool) (ps : List ByteArray) : Option (Int × Int × Int × List ByteArray × Bool) := (impl_ParseNum.f k (rdOf ByteArray.empty ps 0) 9999).bind fun t => if t.2 = true then impl_ParseVer.n2 k a0 pre has ps t.1 else some impl_ParseVer.no
/-- So many numbers are still to be read; what is read so far. -/
def impl_ParseVer.rest (k : Nat) (a0 pre : ByteArray) (has : Bool) (ps : List ByteArray) (m : Nat) (a b c : Int) : Option (Int × Int × Int × List ByteArray × Bool) :=
  match m with
  | 0 => impl_ParseVer.fin k a0 pre has a b c
  | 1 => impl_ParseVer.n1 k a0 pre has ps a b
  | 2 => impl_ParseVer.n2 k a0 pre has ps a
  | _ => impl_ParseVer.n3 k a0 pre has ps
def impl_ParseVer.f (k : Nat) (a0 : ByteArray) : Option (Int × Int × Int × List ByteArray × Bool) :=
  (strings_Cut.f a0 (⟨#[45]⟩ : ByteArray)).bind fun t => (strings_Split.f t.1 (⟨#[46]⟩ : ByteArray)).bind fun ps => if ps.length = 3 then impl_ParseVer.n3 k a0 t.2.1 t.2.2 ps else some impl_ParseVer.no
set_option maxHeartbeats 8000000 in
set_option maxRecDepth 100000 in
theorem impl_ParseVer.calls (k : Nat) (a0 : ByteArray) (r1 : Int) (r2 : Int) (r3 : Int) (r4 : List ByteArray) (r5 : Bool) (w : World) (hG : GW w) (h : impl_ParseVer.f k a0 = some (r1, r2, r3, r4, r5)) :
    Calls Tryd.prog 26 #[.string a0] w fun e w' => ∃ v3_ : Value, e = .returned (.tuple #[.agg #[.int .i64 r1, .int .i64 r2, .int .i64 r3, v3_], .bool r5]) ∧ Kd.R Kd.string 9 w' w.heap.size (fun _ => True) v3_ r4 ∧ Below w.heap.size w w' := by
  have hu_ := Tryd.underlying30
  have HG := Aside0.mk hG
  have HB := Aside0.mk (Below.refl w.heap.size w)
  clear hG
  unfold impl_ParseVer.f at h
  replace h := Option.bind_eq_some_iff.mp h
  obtain ⟨t, hcut, h⟩ := h
  replace h := Option.bind_eq_some_iff.mp h
  obtain ⟨ps, hsplit, h⟩ := h
  obtain ⟨num, pre, has⟩ := t
  have CUT := Aside0.mk hcut
  have SPL := Aside0.mk hsplit
  clear hcut hsplit
  by_cases hlen : ps.length = 3
  · rw [if_pos hlen] at h
    have REST := Aside0.mk h
    have LEN := Aside0.mk hlen
    have hl3 : ((ps.length : Int) == 3) = true := by rw [hlen]; rfl
    have hl3' : ((ps.length : Int) != 3) = false := by rw [hlen]; rfl
    clear h hlen
    go_enter Tryd.func26, Tryd.ntmps26
    go_wp2_with (first
      | ((with_reducible refine gate_dst (N := 2) rfl ?_); refine box_event ?hg (N := 2) ?hd (cs := #[.int .i64 0, .int .i64 0, .int .i64 0, .slice none 0 0]) (t := 30) ?hr ?_; (case hd => rfl); (case hg => rfl); (case hr => first | (go_simp; done) | (go_simp; rfl));
         intro gr hg w1 hbox hb; have n0_ := Aside0.mk (below_step HB.out hb); have BR := Aside0.mk hbox; have GR := Aside0.mk ((by rw [hg]; exact Nat.le_refl _) : w.heap.size ≤ gr); clear HB; have HB := n0_; clear n0_; clear hb hbox hg)
      | (go_at_call 54; (with_reducible refine (strings_Cut.calls a0 (⟨#[45]⟩ : ByteArray) num pre has _ ?hgw CUT.out).mono ?_); (case hgw => exact GW.below HG.out HB.out); rintro e w2 ⟨rfl, hb⟩;
         have n0_ := Aside0.mk (below_step HB.out hb); have n1_ := Aside0.mk (blk_below BR.out hb); clear HB BR; have HB := n0_; have BR := n1_; clear n0_ n1_ hb)
      | (go_at_call 55; (with_reducible refine (strings_Split.calls num (⟨#[46]⟩ : ByteArray) ps _ ?hgw SPL.out).mono ?_); (case hgw => exact GW.below HG.out HB.out); rintro e w3 ⟨v3, rfl, ho, hb⟩;
         have n0_ := Aside0.mk (below_step HB.out hb); have n1_ := Aside0.mk (blk_below BR.out hb); have HO := Aside0.mk (Kd.R_lower ho (below_size HB.out)); clear HB BR; have HB := n0_; have BR := n1_; clear n0_ n1_ hb ho;
         obtain ⟨Ao, co, eo⟩ := Kd.R_slice HO.out; subst eo)
      | ((with_reducible refine gate_dst (N := 8) rfl ?_); refine box_event ?hg (N := 8) ?hd (cs := #[.int .i64 0, .int .i64 0, .int .i64 0, .slice none 0 0]) (t := 30) ?hr ?_; (case hd => rfl); (case hg => rfl); (case hr => first | (go_simp; done) | (go_simp; rfl));
         intro gv hg w4 hbox hb; have n0_ := Aside0.mk (below_step HB.out hb); have n1_ := Aside0.mk (blk_below BR.out hb); have n2_ := Aside0.mk (Kd.R_below HO.out hb); have BV := Aside0.mk hbox; have GV := Aside0.mk ((by rw [hg]; exact below_size HB.out) : w.heap.size ≤ gv);
         have NE := Aside0.mk ((by rw [hg]; exact Nat.ne_of_lt (blk_lt BR.out)) : gr ≠ gv); clear HB BR HO; have HB := n0_; have BR := n1_; have HO := n2_; clear n0_ n1_ n2_; clear hb hbox hg))
    go_loopg [29] 3 (fun gg s29 wr => ∃ (m : Nat) (a b c : Int), m ≤ 3 ∧ m ≤ gg ∧ s29 = .int .i64 ((3 - m : Nat) : Int) ∧ (m = 3 → a = 0) ∧ (2 ≤ m → b = 0) ∧ (1 ≤ m → c = 0) ∧ Aside0 (impl_ParseVer.rest k a0 pre has ps m a b c = some (r1, r2, r3, r4, r5)) ∧ Aside0 (Below w.heap.size w wr) ∧
      Aside0 (wr.heap[gr]? = some (.cells #[.int .i64 0, .int .i64 0, .int .i64 0, .slice none 0 0] 30 (0, 0))) ∧ Aside0 (wr.heap[gv]? = some (.cells #[.int .i64 a, .int .i64 b, .int .i64 c, .slice none 0 0] 30 (0, 0))) ∧
      Aside0 (Kd.string.R 9 wr w.heap.size (fun _ => True) (.slice Ao ps.length co) ps))
    case atStart => exact ⟨3, 0, 0, 0, Nat.le_refl _, Nat.le_refl _, rfl, fun _ => rfl, fun _ => rfl, fun _ => rfl, REST, HB, BR, BV, HO⟩
    case round =>
      clear HB BR BV HO
      obtain ⟨m, a, b, c, hm3, hmg, rfl, ha, hb0, hc0, REST, HB, BR, BV, HO⟩ := hrel
      rcases m with _ | _ | _ | m
      ·
        have H := REST.out
        clear REST
        replace H : impl_ParseVer.fin k a0 pre has a b c = some (r1, r2, r3, r4, r5) := H
        unfold impl_ParseVer.fin at H
        cases has with
        | true =>
          simp only [if_true] at H
          replace H := Option.bind_eq_some_iff.mp H
          obtain ⟨q, hq, H⟩ := H
          replace H := Option.bind_eq_some_iff.mp H
          obtain ⟨t, ht, H⟩ := H
          have SQ := Aside0.mk hq
          have VT := Aside0.mk ht
          clear hq ht
          go_wp2_with (fail)
          (with_reducible refine (strings_Split.calls pre (⟨#[46]⟩ : ByteArray) q _ ?hgw SQ.out).mono ?_)
          (case hgw => exact GW.below HG.out (by repeat (first | (with_reducible first | exact HB.out | apply below_alloc | apply pw_below_drewN | apply below_drew1 | refine below_set ?_ GR.out | refine below_set ?_ GV.out) | exact HB.out)))
          rintro e w5 ⟨v5, rfl, ho, hb⟩
          have n0_ := Aside0.mk (below_step (by repeat (first | (with_reducible first | exact HB.out | apply below_alloc | apply pw_below_drewN | apply below_drew1 | refine below_set ?_ GR.out | refine below_set ?_ GV.out) | exact HB.out)) hb)
          have n1_ := Aside0.mk (blk_below (g := gr) (o := .cells #[.int .i64 0, .int .i64 0, .int .i64 0, .slice none 0 0] 30 (0, 0)) (by (with_reducible repeat (first | refine blk_drewN ?_ _ | refine blk_drew ?_ | refine blk_alloc ?_ _)); exact BR.out) hb)
          have n2_ := Aside0.mk (blk_below (g := gv) (o := .cells #[.int .i64 a, .int .i64 b, .int .i64 c, .slice none 0 0] 30 (0, 0)) (by (with_reducible repeat (first | refine blk_drewN ?_ _ | refine blk_drew ?_ | refine blk_alloc ?_ _)); exact BV.out) hb)
          have n3_ := Aside0.mk (Kd.R_lower ho (below_size (by repeat (first | (with_reducible first | exact HB.out | apply below_alloc | apply pw_below_drewN | apply below_drew1 | refine below_set ?_ GR.out | refine below_set ?_ GV.out) | exact HB.out))))
          clear HB BR BV HO ho hb
          have HB := n0_
          have BR := n1_
          have BV := n2_
          have HQ := n3_
          clear n0_ n1_ n2_ n3_
          obtain ⟨Aq, cq, eq_⟩ := Kd.R_slice HQ.out
          subst eq_
          have hnb := NE.out
          have hnc := NE.out.symm
          have vc0 : w5.cell? ⟨gv, 0, none⟩ = some (.int .i64 a) := (blk_cell BV.out 0).trans rfl
          have vf0 := blk_frozen BV.out 0
          have vc1 : w5.cell? ⟨gv, 1, none⟩ = some (.int .i64 b) := (blk_cell BV.out 1).trans rfl
          have vf1 := blk_frozen BV.out 1
          have vc2 : w5.cell? ⟨gv, 2, none⟩ = some (.int .i64 c) := (blk_cell BV.out 2).trans rfl
          have vf2 := blk_frozen BV.out 2
          have vc3 : w5.cell? ⟨gv, 3, none⟩ = some (.slice none 0 0) := (blk_cell BV.out 3).trans rfl
          have vf3 := blk_frozen BV.out 3
          go_wp2_with (fail)
          (with_reducible refine (impl_VerText.calls k a b c _ _ q t _ ?side1 ?side2 ?hgw VT.out).mono ?_)
          (case side1 => exact (Kd.R_reads' (Kd.R_set (by (with_reducible repeat (first | apply Kd.R_alloc | apply Kd.R_drewN | apply Kd.R_drew)); exact HQ.out) BV.out (by decide) _ _)).2.2)
          (case side2 => exact (Kd.R_reads' HQ.out).2.1)
          (case hgw => exact GW.below HG.out (by repeat (first | (with_reducible first | exact HB.out | apply below_alloc | apply pw_below_drewN | apply below_drew1 | refine below_set ?_ GR.out | refine below_set ?_ GV.out) | exact HB.out)))
          rintro e w6 ⟨rfl, hb⟩
          have n0_ := Aside0.mk (below_step (by repeat (first | (with_reducible first | exact HB.out | apply below_alloc | apply pw_below_drewN | apply below_drew1 | refine below_set ?_ GR.out | refine below_set ?_ GV.out) | exact HB.out)) hb)
          have n1_ := Aside0.mk (blk_below (g := gr) (o := .cells #[.int .i64 0, .int .i64 0, .int .i64 0, .slice none 0 0] 30 (0, 0)) (by (with_reducible repeat (first | refine blk_drewN ?_ _ | refine blk_drew ?_ | refine blk_alloc ?_ _)); refine blk_far ?_ NE.out _; (with_reducible repeat (first | refine blk_drewN ?_ _ | refine blk_drew ?_ | refine blk_alloc ?_ _)); exact BR.out) hb)
          have n2_ := Aside0.mk (blk_below (g := gv) (o := .cells #[.int .i64 a, .int .i64 b, .int .i64 c, .slice Aq q.length cq] 30 (0, 0)) (by (with_reducible repeat (first | refine blk_drewN ?_ _ | refine blk_drew ?_ | refine blk_alloc ?_ _)); refine blk_put (cs := #[.int .i64 a, .int .i64 b, .int .i64 c, .slice none 0 0]) ?_ 3 _ rfl; (with_reducible repeat (first | refine blk_drewN ?_ _ | refine blk_drew ?_ | refine blk_alloc ?_ _)); exact BV.out) hb)
          have n3_ := Aside0.mk (Kd.R_below (Kd.R_set (by (with_reducible repeat (first | apply Kd.R_alloc | apply Kd.R_drewN | apply Kd.R_drew)); exact HQ.out) BV.out (by decide) _ _) hb)
          clear vc0 vc1 vc2 vc3 vf0 vf1 vf2 vf3 HB BR BV HQ hb
          have HB := n0_
          have BR := n1_
          have BV := n2_
          have HQ := n3_
          clear n0_ n1_ n2_ n3_
          have vc0 : w6.cell? ⟨gv, 0, none⟩ = some (.int .i64 a) := (blk_cell BV.out 0).trans rfl
          have vf0 := blk_frozen BV.out 0
          have vc1 : w6.cell? ⟨gv, 1, none⟩ = some (.int .i64 b) := (blk_cell BV.out 1).trans rfl
          have vf1 := blk_frozen BV.out 1
          have vc2 : w6.cell? ⟨gv, 2, none⟩ = some (.int .i64 c) := (blk_cell BV.out 2).trans rfl
          have vf2 := blk_frozen BV.out 2
          have vc3 : w6.cell? ⟨gv, 3, none⟩ = some (.slice Aq q.length cq) := (blk_cell BV.out 3).trans rfl
          have vf3 := blk_frozen BV.out 3
          have rc0 : w6.cell? ⟨gr, 0, none⟩ = some (.int .i64 0) := (blk_cell BR.out 0).trans rfl
          have rf0 := blk_frozen BR.out 0
          have rc1 : w6.cell? ⟨gr, 1, none⟩ = some (.int .i64 0) := (blk_cell BR.out 1).trans rfl
          have rf1 := blk_frozen BR.out 1
          have rc2 : w6.cell? ⟨gr, 2, none⟩ = some (.int .i64 0) := (blk_cell BR.out 2).trans rfl
          have rf2 := blk_frozen BR.out 2
          have rc3 : w6.cell? ⟨gr, 3, none⟩ = some (.slice none 0 0) := (blk_cell BR.out 3).trans rfl
          have rf3 := blk_frozen BR.out 3
          by_cases hs : t.toList = a0.toList
          · rw [if_pos hs] at H
            simp only [Option.some.injEq, Prod.mk.injEq] at H
            obtain ⟨rfl, rfl, rfl, rfl, rfl⟩ := H
            have s0 : (t.toList == a0.toList) = true := beq_iff_eq.mpr hs
            have s1 : (t.toList != a0.toList) = false := bne_eq_false_iff_eq.mpr hs
            clear hs
            go_wp2
            refine bodyPost_ret (results_ct rfl _ _ gr 30 #[.int .i64 a, .int .i64 b, .int .i64 c, .slice Aq q.length cq] (0, 0) _ rfl (by (with_reducible repeat (first | refine blk_drewN ?_ _ | refine blk_drew ?_ | refine blk_alloc ?_ _)); refine blk_put (cs := #[.int .i64 a, .int .i64 b, .int .i64 c, .slice none 0 0]) ?_ 3 _ rfl; (with_reducible repeat (first | refine blk_drewN ?_ _ | refine blk_drew ?_ | refine blk_alloc ?_ _)); refine blk_put (cs := #[.int .i64 a, .int .i64 b, .int .i64 0, .slice none 0 0]) ?_ 2 _ rfl; (with_reducible repeat (first | refine blk_drewN ?_ _ | refine blk_drew ?_ | refine blk_alloc ?_ _)); refine blk_put (cs := #[.int .i64 a, .int .i64 0, .int .i64 0, .slice none 0 0]) ?_ 1 _ rfl; (with_reducible repeat (first | refine blk_drewN ?_ _ | refine blk_drew ?_ | refine blk_alloc ?_ _)); refine blk_put (cs := #[.int .i64 0, .int .i64 0, .int .i64 0, .slice none 0 0]) ?_ 0 _ rfl; (with_reducible repeat (first | refine blk_drewN ?_ _ | refine blk_drew ?_ | refine blk_alloc ?_ _)); exact BR.out) Tryd.underlying30 rfl (by kernel_rfl)) rfl ?_
            exact ⟨_, rfl, by (with_reducible repeat (first | apply Kd.R_alloc | apply Kd.R_drewN | apply Kd.R_drew)); exact Kd.R_mono (Kd.R_far (p := ⟨gr, 3, none⟩) (Kd.R_far (p := ⟨gr, 2, none⟩) (Kd.R_far (p := ⟨gr, 1, none⟩) (Kd.R_far (p := ⟨gr, 0, none⟩) (Kd.R_types HQ.out BR.out (by decide)) (fun _ hk => hk.2) (.int .i64 a)) (fun _ hk => hk.2) (.int .i64 b)) (fun _ hk => hk.2) (.int .i64 c)) (fun _ hk => hk.2) (.slice Aq q.length cq)) (fun _ _ => trivial), by repeat (first | (with_reducible first | exact HB.out | apply below_alloc | apply pw_below_drewN | apply below_drew1 | refine below_set ?_ GR.out | refine below_set ?_ GV.out) | exact HB.out)⟩
          · rw [if_neg hs] at H
            simp only [impl_ParseVer.no, Option.some.injEq, Prod.mk.injEq] at H
            obtain ⟨rfl, rfl, rfl, rfl, rfl⟩ := H
            have s0 : (t.toList == a0.toList) = false := beq_eq_false_iff_ne.mpr hs
            have s1 : (t.toList != a0.toList) = true := bne_iff_ne.mpr hs
            clear hs
            go_wp2
            refine bodyPost_ret (results_ct rfl _ _ gr 30 #[.int .i64 0, .int .i64 0, .int .i64 0, .slice none 0 0] (0, 0) _ rfl (by (with_reducible repeat (first | refine blk_drewN ?_ _ | refine blk_drew ?_ | refine blk_alloc ?_ _)); refine blk_put (cs := #[.int .i64 0, .int .i64 0, .int .i64 0, .slice none 0 0]) ?_ 3 _ rfl; (with_reducible repeat (first | refine blk_drewN ?_ _ | refine blk_drew ?_ | refine blk_alloc ?_ _)); refine blk_put (cs := #[.int .i64 0, .int .i64 0, .int .i64 0, .slice none 0 0]) ?_ 2 _ rfl; (with_reducible repeat (first | refine blk_drewN ?_ _ | refine blk_drew ?_ | refine blk_alloc ?_ _)); refine blk_put (cs := #[.int .i64 0, .int .i64 0, .int .i64 0, .slice none 0 0]) ?_ 1 _ rfl; (with_reducible repeat (first | refine blk_drewN ?_ _ | refine blk_drew ?_ | refine blk_alloc ?_ _)); refine blk_put (cs := #[.int .i64 0, .int .i64 0, .int .i64 0, .slice none 0 0]) ?_ 0 _ rfl; (with_reducible repeat (first | refine blk_drewN ?_ _ | refine blk_drew ?_ | refine blk_alloc ?_ _)); exact BR.out) Tryd.underlying30 rfl (by kernel_rfl)) rfl ?_
            exact ⟨_, rfl, Kd.R_nil _ _ _ _ _, by repeat (first | (with_reducible first | exact HB.out | apply below_alloc | apply pw_below_drewN | apply below_drew1 | refine below_set ?_ GR.out | refine below_set ?_ GV.out) | exact HB.out)⟩
        | false =>
          simp only [Bool.false_eq_true, if_false] at H
          replace H := Option.bind_eq_some_iff.mp H
          obtain ⟨t, ht, H⟩ := H
          have VT := Aside0.mk ht
          clear ht HO
          have hnb := NE.out
          have hnc := NE.out.symm
          have vc0 : wr.cell? ⟨gv, 0, none⟩ = some (.int .i64 a) := (blk_cell BV.out 0).trans rfl
          have vf0 := blk_frozen BV.out 0
          have vc1 : wr.cell? ⟨gv, 1, none⟩ = some (.int .i64 b) := (blk_cell BV.out 1).trans rfl
          have vf1 := blk_frozen BV.out 1
          have vc2 : wr.cell? ⟨gv, 2, none⟩ = some (.int .i64 c) := (blk_cell BV.out 2).trans rfl
          have vf2 := blk_frozen BV.out 2
          have vc3 : wr.cell? ⟨gv, 3, none⟩ = some (.slice none 0 0) := (blk_cell BV.out 3).trans rfl
          have vf3 := blk_frozen BV.out 3
          go_wp2_with (fail)
          (refine (impl_VerText.calls k a b c none 0 [] t _ ?side1 ?side2 ?hgw VT.out).mono ?_)
          (case side1 => exact Kd.C_nil _ _)
          (case side2 => exact Nat.le_refl _)
          (case hgw => exact GW.below HG.out (by repeat (first | (with_reducible first | exact HB.out | apply below_alloc | apply pw_below_drewN | apply below_drew1 | refine below_set ?_ GR.out | refine below_set ?_ GV.out) | exact HB.out)))
          rintro e w6 ⟨rfl, hb⟩
          have n0_ := Aside0.mk (below_step (by repeat (first | (with_reducible first | exact HB.out | apply below_alloc | apply pw_below_drewN | apply below_drew1 | refine below_set ?_ GR.out | refine below_set ?_ GV.out) | exact HB.out)) hb)
          have n1_ := Aside0.mk (blk_below (g := gr) (o := .cells #[.int .i64 0, .int .i64 0, .int .i64 0, .slice none 0 0] 30 (0, 0)) (by (with_reducible repeat (first | refine blk_drewN ?_ _ | refine blk_drew ?_ | refine blk_alloc ?_ _)); exact BR.out) hb)
          have n2_ := Aside0.mk (blk_below (g := gv) (o := .cells #[.int .i64 a, .int .i64 b, .int .i64 c, .slice none 0 0] 30 (0, 0)) (by (with_reducible repeat (first | refine blk_drewN ?_ _ | refine blk_drew ?_ | refine blk_alloc ?_ _)); exact BV.out) hb)
          clear vc0 vc1 vc2 vc3 vf0 vf1 vf2 vf3 HB BR BV hb
          have HB := n0_
          have BR := n1_
          have BV := n2_
          clear n0_ n1_ n2_
          have vc0 : w6.cell? ⟨gv, 0, none⟩ = some (.int .i64 a) := (blk_cell BV.out 0).trans rfl
          have vf0 := blk_frozen BV.out 0
          have vc1 : w6.cell? ⟨gv, 1, none⟩ = some (.int .i64 b) := (blk_cell BV.out 1).trans rfl
          have vf1 := blk_frozen BV.out 1
          have vc2 : w6.cell? ⟨gv, 2, none⟩ = some (.int .i64 c) := (blk_cell BV.out 2).trans rfl
          have vf2 := blk_frozen BV.out 2
          have vc3 : w6.cell? ⟨gv, 3, none⟩ = some (.slice none 0 0) := (blk_cell BV.out 3).trans rfl
          have vf3 := blk_frozen BV.out 3
          have rc0 : w6.cell? ⟨gr, 0, none⟩ = some (.int .i64 0) := (blk_cell BR.out 0).trans rfl
          have rf0 := blk_frozen BR.out 0
          have rc1 : w6.cell? ⟨gr, 1, none⟩ = some (.int .i64 0) := (blk_cell BR.out 1).trans rfl
          have rf1 := blk_frozen BR.out 1
          have rc2 : w6.cell? ⟨gr, 2, none⟩ = some (.int .i64 0) := (blk_cell BR.out 2).trans rfl
          have rf2 := blk_frozen BR.out 2
          have rc3 : w6.cell? ⟨gr, 3, none⟩ = some (.slice none 0 0) := (blk_cell BR.out 3).trans rfl
          have rf3 := blk_frozen BR.out 3
          by_cases hs : t.toList = a0.toList
          · rw [if_pos hs] at H
            simp only [Option.some.injEq, Prod.mk.injEq] at H
            obtain ⟨rfl, rfl, rfl, rfl, rfl⟩ := H
            have s0 : (t.toList == a0.toList) = true := beq_iff_eq.mpr hs
            have s1 : (t.toList != a0.toList) = false := bne_eq_false_iff_eq.mpr hs
            clear hs
            go_wp2
            refine bodyPost_ret (results_ct rfl _ _ gr 30 #[.int .i64 a, .int .i64 b, .int .i64 c, .slice none 0 0] (0, 0) _ rfl (by (with_reducible repeat (first | refine blk_drewN ?_ _ | refine blk_drew ?_ | refine blk_alloc ?_ _)); refine blk_put (cs := #[.int .i64 a, .int .i64 b, .int .i64 c, .slice none 0 0]) ?_ 3 _ rfl; (with_reducible repeat (first | refine blk_drewN ?_ _ | refine blk_drew ?_ | refine blk_alloc ?_ _)); refine blk_put (cs := #[.int .i64 a, .int .i64 b, .int .i64 0, .slice none 0 0]) ?_ 2 _ rfl; (with_reducible repeat (first | refine blk_drewN ?_ _ | refine blk_drew ?_ | refine blk_alloc ?_ _)); refine blk_put (cs := #[.int .i64 a, .int .i64 0, .int .i64 0, .slice none 0 0]) ?_ 1 _ rfl; (with_reducible repeat (first | refine blk_drewN ?_ _ | refine blk_drew ?_ | refine blk_alloc ?_ _)); refine blk_put (cs := #[.int .i64 0, .int .i64 0, .int .i64 0, .slice none 0 0]) ?_ 0 _ rfl; (with_reducible repeat (first | refine blk_drewN ?_ _ | refine blk_drew ?_ | refine blk_alloc ?_ _)); exact BR.out) Tryd.underlying30 rfl (by kernel_rfl)) rfl ?_
            exact ⟨_, rfl, Kd.R_nil _ _ _ _ _, by repeat (first | (with_reducible first | exact HB.out | apply below_alloc | apply pw_below_drewN | apply below_drew1 | refine below_set ?_ GR.out | refine below_set ?_ GV.out) | exact HB.out)⟩
          · rw [if_neg hs] at H
            simp only [impl_ParseVer.no, Option.some.injEq, Prod.mk.injEq] at H
            obtain ⟨rfl, rfl, rfl, rfl, rfl⟩ := H
            have s0 : (t.toList == a0.toList) = false := beq_eq_false_iff_ne.mpr hs
            have s1 : (t.toList != a0.toList) = true := bne_iff_ne.mpr hs
            clear hs
            go_wp2
            refine bodyPost_ret (results_ct rfl _ _ gr 30 #[.int .i64 0, .int .i64 0, .int .i64 0, .slice none 0 0] (0, 0) _ rfl (by (with_reducible repeat (first | refine blk_drewN ?_ _ | refine blk_drew ?_ | refine blk_alloc ?_ _)); refine blk_put (cs := #[.int .i64 0, .int .i64 0, .int .i64 0, .slice none 0 0]) ?_ 3 _ rfl; (with_reducible repeat (first | refine blk_drewN ?_ _ | refine blk_drew ?_ | refine blk_alloc ?_ _)); refine blk_put (cs := #[.int .i64 0, .int .i64 0, .int .i64 0, .slice none 0 0]) ?_ 2 _ rfl; (with_reducible repeat (first | refine blk_drewN ?_ _ | refine blk_drew ?_ | refine blk_alloc ?_ _)); refine blk_put (cs := #[.int .i64 0, .int .i64 0, .int .i64 0, .slice none 0 0]) ?_ 1 _ rfl; (with_reducible repeat (first | refine blk_drewN ?_ _ | refine blk_drew ?_ | refine blk_alloc ?_ _)); refine blk_put (cs := #[.int .i64 0, .int .i64 0, .int .i64 0, .slice none 0 0]) ?_ 0 _ rfl; (with_reducible repeat (first | refine blk_drewN ?_ _ | refine blk_drew ?_ | refine blk_alloc ?_ _)); exact BR.out) Tryd.underlying30 rfl (by kernel_rfl)) rfl ?_
            exact ⟨_, rfl, Kd.R_nil _ _ _ _ _, by repeat (first | (with_reducible first | exact HB.out | apply below_alloc | apply pw_below_drewN | apply below_drew1 | refine below_set ?_ GR.out | refine below_set ?_ GV.out) | exact HB.out)⟩
      ·
        obtain rfl := hc0 (by omega)
        obtain ⟨pb, po, e_, hcell⟩ := Lb.C_string_plain (Kd.R_reads' HO.out).2.2 (by have := LEN.out; omega)
        cases e_
        have hx : wr.cell? ⟨pb, po + 2, none⟩ = some (.string (rdOf ByteArray.empty ps 2)) := hcell 2 _ (by
          unfold rdOf
          rw [List.getD_eq_getElem?_getD, show (2 : Int).toNat = 2 from rfl, List.getElem?_eq_getElem (show 2 < ps.length by have := LEN.out; omega)]
          rfl)
        clear hcell
        have hidx : ∀ W : World, (Instr.index 81 (.agg #[.pointer (some ⟨gv, 0, none⟩), .pointer (some ⟨gv, 1, none⟩), .pointer (some ⟨gv, 2, none⟩)]) (.int .i64 2)).run Tryd.prog W = .ok (.pointer (some ⟨gv, 2, none⟩)) W := fun W => by kernel_rfl
        have hl : (2 : Int) < (ps.length : Int) := by have := LEN.out; omega
        have H := REST.out
        clear REST
        replace H := Option.bind_eq_some_iff.mp H
        obtain ⟨⟨n, ok⟩, hpn, H⟩ := H
        have PN := Aside0.mk hpn
        clear hpn
        cases ok with
        | false =>
          replace H : some impl_ParseVer.no = some (r1, r2, r3, r4, r5) := H
          simp only [impl_ParseVer.no, Option.some.injEq, Prod.mk.injEq] at H
          obtain ⟨rfl, rfl, rfl, rfl, rfl⟩ := H
          go_wp2_with (fail)
          (with_reducible refine (impl_ParseNum.calls k (rdOf ByteArray.empty ps 2) 9999 n false _ ?hgw PN.out).mono ?_)
          (case hgw => exact GW.below HG.out (by repeat (first | (with_reducible first | exact HB.out | apply below_alloc | apply pw_below_drewN | apply below_drew1) | exact HB.out)))
          rintro e w5 ⟨rfl, hb⟩
          have n0_ := Aside0.mk (below_step (by repeat (first | (with_reducible first | exact HB.out | apply below_alloc | apply pw_below_drewN | apply below_drew1) | exact HB.out)) hb)
          have n1_ := Aside0.mk (blk_below (g := gr) (o := .cells #[.int .i64 0, .int .i64 0, .int .i64 0, .slice none 0 0] 30 (0, 0)) (by (with_reducible repeat (first | refine blk_drewN ?_ _ | refine blk_drew ?_ | refine blk_alloc ?_ _)); exact BR.out) hb)
          have n2_ := Aside0.mk (blk_below (g := gv) (o := .cells #[.int .i64 a, .int .i64 b, .int .i64 0, .slice none 0 0] 30 (0, 0)) (by (with_reducible repeat (first | refine blk_drewN ?_ _ | refine blk_drew ?_ | refine blk_alloc ?_ _)); exact BV.out) hb)
          have n3_ := Aside0.mk (Kd.R_below (d := Kd.string) (e := 9) (base := w.heap.size) (ok := fun _ => True) (by (with_reducible repeat (first | apply Kd.R_alloc | apply Kd.R_drewN | apply Kd.R_drew)); exact HO.out) hb)
          clear HB BR BV HO
          have HB := n0_
          have BR := n1_
          have BV := n2_
          have HO := n3_
          clear n0_ n1_ n2_ n3_ hb
          have hnb := NE.out
          have hnc := NE.out.symm
          have cv0 : w5.cell? ⟨gv, 2, none⟩ = some (.int .i64 0) := (blk_cell BV.out 2).trans rfl
          have fv0 := blk_frozen BV.out 2
          have cr0 : w5.cell? ⟨gr, 0, none⟩ = some (.int .i64 0) := (blk_cell BR.out 0).trans rfl
          have cr1 : w5.cell? ⟨gr, 1, none⟩ = some (.int .i64 0) := (blk_cell BR.out 1).trans rfl
          have cr2 : w5.cell? ⟨gr, 2, none⟩ = some (.int .i64 0) := (blk_cell BR.out 2).trans rfl
          have cr3 : w5.cell? ⟨gr, 3, none⟩ = some (.slice none 0 0) := (blk_cell BR.out 3).trans rfl
          have fr0 := blk_frozen BR.out 0
          have fr1 := blk_frozen BR.out 1
          have fr2 := blk_frozen BR.out 2
          have fr3 := blk_frozen BR.out 3
          go_wp2
          refine bodyPost_ret (results_ct rfl _ _ gr 30 #[.int .i64 0, .int .i64 0, .int .i64 0, .slice none 0 0] (0, 0) _ rfl (by (with_reducible repeat (first | refine blk_drewN ?_ _ | refine blk_drew ?_ | refine blk_alloc ?_ _)); refine blk_put (cs := #[.int .i64 0, .int .i64 0, .int .i64 0, .slice none 0 0]) ?_ 3 _ rfl; (with_reducible repeat (first | refine blk_drewN ?_ _ | refine blk_drew ?_ | refine blk_alloc ?_ _)); refine blk_put (cs := #[.int .i64 0, .int .i64 0, .int .i64 0, .slice none 0 0]) ?_ 2 _ rfl; (with_reducible repeat (first | refine blk_drewN ?_ _ | refine blk_drew ?_ | refine blk_alloc ?_ _)); refine blk_put (cs := #[.int .i64 0, .int .i64 0, .int .i64 0, .slice none 0 0]) ?_ 1 _ rfl; (with_reducible repeat (first | refine blk_drewN ?_ _ | refine blk_drew ?_ | refine blk_alloc ?_ _)); refine blk_put (cs := #[.int .i64 0, .int .i64 0, .int .i64 0, .slice none 0 0]) ?_ 0 _ rfl; (with_reducible repeat (first | refine blk_drewN ?_ _ | refine blk_drew ?_ | refine blk_alloc ?_ _)); exact BR.out) Tryd.underlying30 rfl (by kernel_rfl)) rfl ?_
          exact ⟨_, rfl, Kd.R_nil _ _ _ _ _, by repeat (first | (with_reducible first | exact HB.out | apply below_alloc | apply pw_below_drewN | apply below_drew1 | refine below_set ?_ GR.out | refine below_set ?_ GV.out) | exact HB.out)⟩
        | true =>
          have RST := Aside0.mk H
          clear H
          go_wp2_with (fail)
          (with_reducible refine (impl_ParseNum.calls k (rdOf ByteArray.empty ps 2) 9999 n true _ ?hgw PN.out).mono ?_)
          (case hgw => exact GW.below HG.out (by repeat (first | (with_reducible first | exact HB.out | apply below_alloc | apply pw_below_drewN | apply below_drew1) | exact HB.out)))
          rintro e w5 ⟨rfl, hb⟩
          have n0_ := Aside0.mk (below_step (by repeat (first | (with_reducible first | exact HB.out | apply below_alloc | apply pw_below_drewN | apply below_drew1) | exact HB.out)) hb)
          have n1_ := Aside0.mk (blk_below (g := gr) (o := .cells #[.int .i64 0, .int .i64 0, .int .i64 0, .slice none 0 0] 30 (0, 0)) (by (with_reducible repeat (first | refine blk_drewN ?_ _ | refine blk_drew ?_ | refine blk_alloc ?_ _)); exact BR.out) hb)
          have n2_ := Aside0.mk (blk_below (g := gv) (o := .cells #[.int .i64 a, .int .i64 b, .int .i64 0, .slice none 0 0] 30 (0, 0)) (by (with_reducible repeat (first | refine blk_drewN ?_ _ | refine blk_drew ?_ | refine blk_alloc ?_ _)); exact BV.out) hb)
          have n3_ := Aside0.mk (Kd.R_below (d := Kd.string) (e := 9) (base := w.heap.size) (ok := fun _ => True) (by (with_reducible repeat (first | apply Kd.R_alloc | apply Kd.R_drewN | apply Kd.R_drew)); exact HO.out) hb)
          clear HB BR BV HO
          have HB := n0_
          have BR := n1_
          have BV := n2_
          have HO := n3_
          clear n0_ n1_ n2_ n3_ hb
          have hnb := NE.out
          have hnc := NE.out.symm
          have cv0 : w5.cell? ⟨gv, 2, none⟩ = some (.int .i64 0) := (blk_cell BV.out 2).trans rfl
          have fv0 := blk_frozen BV.out 2
          have cr0 : w5.cell? ⟨gr, 0, none⟩ = some (.int .i64 0) := (blk_cell BR.out 0).trans rfl
          have cr1 : w5.cell? ⟨gr, 1, none⟩ = some (.int .i64 0) := (blk_cell BR.out 1).trans rfl
          have cr2 : w5.cell? ⟨gr, 2, none⟩ = some (.int .i64 0) := (blk_cell BR.out 2).trans rfl
          have cr3 : w5.cell? ⟨gr, 3, none⟩ = some (.slice none 0 0) := (blk_cell BR.out 3).trans rfl
          have fr0 := blk_frozen BR.out 0
          have fr1 := blk_frozen BR.out 1
          have fr2 := blk_frozen BR.out 2
          have fr3 := blk_frozen BR.out 3
          go_wp2
          go_roundg 0
          case measure => omega
          case rel => exact ⟨0, a, b, n, by omega, by omega, by first | rfl | go_num, by first | omega | (intro _; omega), by first | omega | (intro _; first | rfl | omega), by first | omega | (intro _; first | rfl | omega), RST, ⟨by repeat (first | (with_reducible first | exact HB.out | apply below_alloc | apply pw_below_drewN | apply below_drew1 | refine below_set ?_ GR.out | refine below_set ?_ GV.out) | exact HB.out)⟩,
            ⟨by (with_reducible repeat (first | refine blk_drewN ?_ _ | refine blk_drew ?_ | refine blk_alloc ?_ _)); refine blk_far ?_ NE.out _; (with_reducible repeat (first | refine blk_drewN ?_ _ | refine blk_drew ?_ | refine blk_alloc ?_ _)); exact BR.out⟩, ⟨by (with_reducible repeat (first | refine blk_drewN ?_ _ | refine blk_drew ?_ | refine blk_alloc ?_ _)); refine blk_put (cs := #[.int .i64 a, .int .i64 b, .int .i64 0, .slice none 0 0]) ?_ 2 _ rfl; (with_reducible repeat (first | refine blk_drewN ?_ _ | refine blk_drew ?_ | refine blk_alloc ?_ _)); exact BV.out⟩, ⟨Kd.R_set (by (with_reducible repeat (first | apply Kd.R_alloc | apply Kd.R_drewN | apply Kd.R_drew)); exact HO.out) BV.out (by decide) _ _⟩⟩
      ·
        obtain rfl := hb0 (by omega); obtain rfl := hc0 (by omega)
        obtain ⟨pb, po, e_, hcell⟩ := Lb.C_string_plain (Kd.R_reads' HO.out).2.2 (by have := LEN.out; omega)
        cases e_
        have hx : wr.cell? ⟨pb, po + 1, none⟩ = some (.string (rdOf ByteArray.empty ps 1)) := hcell 1 _ (by
          unfold rdOf
          rw [List.getD_eq_getElem?_getD, show (1 : Int).toNat = 1 from rfl, List.getElem?_eq_getElem (show 1 < ps.length by have := LEN.out; omega)]
          rfl)
        clear hcell
        have hidx : ∀ W : World, (Instr.index 81 (.agg #[.pointer (some ⟨gv, 0, none⟩), .pointer (some ⟨gv, 1, none⟩), .pointer (some ⟨gv, 2, none⟩)]) (.int .i64 1)).run Tryd.prog W = .ok (.pointer (some ⟨gv, 1, none⟩)) W := fun W => by kernel_rfl
        have hl : (1 : Int) < (ps.length : Int) := by have := LEN.out; omega
        have H := REST.out
        clear REST
        replace H := Option.bind_eq_some_iff.mp H
        obtain ⟨⟨n, ok⟩, hpn, H⟩ := H
        have PN := Aside0.mk hpn
        clear hpn
        cases ok with
        | false =>
          replace H : some impl_ParseVer.no = some (r1, r2, r3, r4, r5) := H
          simp only [impl_ParseVer.no, Option.some.injEq, Prod.mk.injEq] at H
          obtain ⟨rfl, rfl, rfl, rfl, rfl⟩ := H
          go_wp2_with (fail)
          (with_reducible refine (impl_ParseNum.calls k (rdOf ByteArray.empty ps 1) 9999 n false _ ?hgw PN.out).mono ?_)
          (case hgw => exact GW.below HG.out (by repeat (first | (with_reducible first | exact HB.out | apply below_alloc | apply pw_below_drewN | apply below_drew1) | exact HB.out)))
          rintro e w5 ⟨rfl, hb⟩
          have n0_ := Aside0.mk (below_step (by repeat (first | (with_reducible first | exact HB.out | apply below_alloc | apply pw_below_drewN | apply below_drew1) | exact HB.out)) hb)
          have n1_ := Aside0.mk (blk_below (g := gr) (o := .cells #[.int .i64 0, .int .i64 0, .int .i64 0, .slice none 0 0] 30 (0, 0)) (by (with_reducible repeat (first | refine blk_drewN ?_ _ | refine blk_drew ?_ | refine blk_alloc ?_ _)); exact BR.out) hb)
          have n2_ := Aside0.mk (blk_below (g := gv) (o := .cells #[.int .i64 a, .int .i64 0, .int .i64 0, .slice none 0 0] 30 (0, 0)) (by (with_reducible repeat (first | refine blk_drewN ?_ _ | refine blk_drew ?_ | refine blk_alloc ?_ _)); exact BV.out) hb)
          have n3_ := Aside0.mk (Kd.R_below (d := Kd.string) (e := 9) (base := w.heap.size) (ok := fun _ => True) (by (with_reducible repeat (first | apply Kd.R_alloc | apply Kd.R_drewN | apply Kd.R_drew)); exact HO.out) hb)
          clear HB BR BV HO
          have HB := n0_
          have BR := n1_
          have BV := n2_
          have HO := n3_
          clear n0_ n1_ n2_ n3_ hb
          have hnb := NE.out
          have hnc := NE.out.symm
          have cv0 : w5.cell? ⟨gv, 1, none⟩ = some (.int .i64 0) := (blk_cell BV.out 1).trans rfl
          have fv0 := blk_frozen BV.out 1
          have cr0 : w5.cell? ⟨gr, 0, none⟩ = some (.int .i64 0) := (blk_cell BR.out 0).trans rfl
          have cr1 : w5.cell? ⟨gr, 1, none⟩ = some (.int .i64 0) := (blk_cell BR.out 1).trans rfl
          have cr2 : w5.cell? ⟨gr, 2, none⟩ = some (.int .i64 0) := (blk_cell BR.out 2).trans rfl
          have cr3 : w5.cell? ⟨gr, 3, none⟩ = some (.slice none 0 0) := (blk_cell BR.out 3).trans rfl
          have fr0 := blk_frozen BR.out 0
          have fr1 := blk_frozen BR.out 1
          have fr2 := blk_frozen BR.out 2
          have fr3 := blk_frozen BR.out 3
          go_wp2
          refine bodyPost_ret (results_ct rfl _ _ gr 30 #[.int .i64 0, .int .i64 0, .int .i64 0, .slice none 0 0] (0, 0) _ rfl (by (with_reducible repeat (first | refine blk_drewN ?_ _ | refine blk_drew ?_ | refine blk_alloc ?_ _)); refine blk_put (cs := #[.int .i64 0, .int .i64 0, .int .i64 0, .slice none 0 0]) ?_ 3 _ rfl; (with_reducible repeat (first | refine blk_drewN ?_ _ | refine blk_drew ?_ | refine blk_alloc ?_ _)); refine blk_put (cs := #[.int .i64 0, .int .i64 0, .int .i64 0, .slice none 0 0]) ?_ 2 _ rfl; (with_reducible repeat (first | refine blk_drewN ?_ _ | refine blk_drew ?_ | refine blk_alloc ?_ _)); refine blk_put (cs := #[.int .i64 0, .int .i64 0, .int .i64 0, .slice none 0 0]) ?_ 1 _ rfl; (with_reducible repeat (first | refine blk_drewN ?_ _ | refine blk_drew ?_ | refine blk_alloc ?_ _)); refine blk_put (cs := #[.int .i64 0, .int .i64 0, .int .i64 0, .slice none 0 0]) ?_ 0 _ rfl; (with_reducible repeat (first | refine blk_drewN ?_ _ | refine blk_drew ?_ | refine blk_alloc ?_ _)); exact BR.out) Tryd.underlying30 rfl (by kernel_rfl)) rfl ?_
          exact ⟨_, rfl, Kd.R_nil _ _ _ _ _, by repeat (first | (with_reducible first | exact HB.out | apply below_alloc | apply pw_below_drewN | apply below_drew1 | refine below_set ?_ GR.out | refine below_set ?_ GV.out) | exact HB.out)⟩
        | true =>
          have RST := Aside0.mk H
          clear H
          go_wp2_with (fail)
          (with_reducible refine (impl_ParseNum.calls k (rdOf ByteArray.empty ps 1) 9999 n true _ ?hgw PN.out).mono ?_)
          (case hgw => exact GW.below HG.out (by repeat (first | (with_reducible first | exact HB.out | apply below_alloc | apply pw_below_drewN | apply below_drew1) | exact HB.out)))
          rintro e w5 ⟨rfl, hb⟩
          have n0_ := Aside0.mk (below_step (by repeat (first | (with_reducible first | exact HB.out | apply below_alloc | apply pw_below_drewN | apply below_drew1) | exact HB.out)) hb)
          have n1_ := Aside0.mk (blk_below (g := gr) (o := .cells #[.int .i64 0, .int .i64 0, .int .i64 0, .slice none 0 0] 30 (0, 0)) (by (with_reducible repeat (first | refine blk_drewN ?_ _ | refine blk_drew ?_ | refine blk_alloc ?_ _)); exact BR.out) hb)
          have n2_ := Aside0.mk (blk_below (g := gv) (o := .cells #[.int .i64 a, .int .i64 0, .int .i64 0, .slice none 0 0] 30 (0, 0)) (by (with_reducible repeat (first | refine blk_drewN ?_ _ | refine blk_drew ?_ | refine blk_alloc ?_ _)); exact BV.out) hb)
          have n3_ := Aside0.mk (Kd.R_below (d := Kd.string) (e := 9) (base := w.heap.size) (ok := fun _ => True) (by (with_reducible repeat (first | apply Kd.R_alloc | apply Kd.R_drewN | apply Kd.R_drew)); exact HO.out) hb)
          clear HB BR BV HO
          have HB := n0_
          have BR := n1_
          have BV := n2_
          have HO := n3_
          clear n0_ n1_ n2_ n3_ hb
          have hnb := NE.out
          have hnc := NE.out.symm
          have cv0 : w5.cell? ⟨gv, 1, none⟩ = some (.int .i64 0) := (blk_cell BV.out 1).trans rfl
          have fv0 := blk_frozen BV.out 1
          have cr0 : w5.cell? ⟨gr, 0, none⟩ = some (.int .i64 0) := (blk_cell BR.out 0).trans rfl
          have cr1 : w5.cell? ⟨gr, 1, none⟩ = some (.int .i64 0) := (blk_cell BR.out 1).trans rfl
          have cr2 : w5.cell? ⟨gr, 2, none⟩ = some (.int .i64 0) := (blk_cell BR.out 2).trans rfl
          have cr3 : w5.cell? ⟨gr, 3, none⟩ = some (.slice none 0 0) := (blk_cell BR.out 3).trans rfl
          have fr0 := blk_frozen BR.out 0
          have fr1 := blk_frozen BR.out 1
          have fr2 := blk_frozen BR.out 2
          have fr3 := blk_frozen BR.out 3
          go_wp2
          go_roundg 1
          case measure => omega
          case rel => exact ⟨1, a, n, 0, by omega, by omega, by first | rfl | go_num, by first | omega | (intro _; omega), by first | omega | (intro _; first | rfl | omega), by first | omega | (intro _; first | rfl | omega), RST, ⟨by repeat (first | (with_reducible first | exact HB.out | apply below_alloc | apply pw_below_drewN | apply below_drew1 | refine below_set ?_ GR.out | refine below_set ?_ GV.out) | exact HB.out)⟩,
            ⟨by (with_reducible repeat (first | refine blk_drewN ?_ _ | refine blk_drew ?_ | refine blk_alloc ?_ _)); refine blk_far ?_ NE.out _; (with_reducible repeat (first | refine blk_drewN ?_ _ | refine blk_drew ?_ | refine blk_alloc ?_ _)); exact BR.out⟩, ⟨by (with_reducible repeat (first | refine blk_drewN ?_ _ | refine blk_drew ?_ | refine blk_alloc ?_ _)); refine blk_put (cs := #[.int .i64 a, .int .i64 0, .int .i64 0, .slice none 0 0]) ?_ 1 _ rfl; (with_reducible repeat (first | refine blk_drewN ?_ _ | refine blk_drew ?_ | refine blk_alloc ?_ _)); exact BV.out⟩, ⟨Kd.R_set (by (with_reducible repeat (first | apply Kd.R_alloc | apply Kd.R_drewN | apply Kd.R_drew)); exact HO.out) BV.out (by decide) _ _⟩⟩
      · obtain rfl : m = 0 := by omega
        obtain rfl := ha rfl; obtain rfl := hb0 (by omega); obtain rfl := hc0 (by omega)
        obtain ⟨pb, po, e_, hcell⟩ := Lb.C_string_plain (Kd.R_reads' HO.out).2.2 (by have := LEN.out; omega)
        cases e_
        have hx : wr.cell? ⟨pb, po, none⟩ = some (.string (rdOf ByteArray.empty ps 0)) := hcell 0 _ (by
          unfold rdOf
          rw [List.getD_eq_getElem?_getD, show (0 : Int).toNat = 0 from rfl, List.getElem?_eq_getElem (show 0 < ps.length by have := LEN.out; omega)]
          rfl)
        clear hcell
        have hidx : ∀ W : World, (Instr.index 81 (.agg #[.pointer (some ⟨gv, 0, none⟩), .pointer (some ⟨gv, 1, none⟩), .pointer (some ⟨gv, 2, none⟩)]) (.int .i64 0)).run Tryd.prog W = .ok (.pointer (some ⟨gv, 0, none⟩)) W := fun W => by kernel_rfl
        have hl : (0 : Int) < (ps.length : Int) := by have := LEN.out; omega
        have H := REST.out
        clear REST
        replace H := Option.bind_eq_some_iff.mp H
        obtain ⟨⟨n, ok⟩, hpn, H⟩ := H
        have PN := Aside0.mk hpn
        clear hpn
        cases ok with
        | false =>
          replace H : some impl_ParseVer.no = some (r1, r2, r3, r4, r5) := H
          simp only [impl_ParseVer.no, Option.some.injEq, Prod.mk.injEq] at H
          obtain ⟨rfl, rfl, rfl, rfl, rfl⟩ := H
          go_wp2_with (fail)
          (with_reducible refine (impl_ParseNum.calls k (rdOf ByteArray.empty ps 0) 9999 n false _ ?hgw PN.out).mono ?_)
          (case hgw => exact GW.below HG.out (by repeat (first | (with_reducible first | exact HB.out | apply below_alloc | apply pw_below_drewN | apply below_drew1) | exact HB.out)))
          rintro e w5 ⟨rfl, hb⟩
          have n0_ := Aside0.mk (below_step (by repeat (first | (with_reducible first | exact HB.out | apply below_alloc | apply pw_below_drewN | apply below_drew1) | exact HB.out)) hb)
          have n1_ := Aside0.mk (blk_below (g := gr) (o := .cells #[.int .i64 0, .int .i64 0, .int .i64 0, .slice none 0 0] 30 (0, 0)) (by (with_reducible repeat (first | refine blk_drewN ?_ _ | refine blk_drew ?_ | refine blk_alloc ?_ _)); exact BR.out) hb)
          have n2_ := Aside0.mk (blk_below (g := gv) (o := .cells #[.int .i64 0, .int .i64 0, .int .i64 0, .slice none 0 0] 30 (0, 0)) (by (with_reducible repeat (first | refine blk_drewN ?_ _ | refine blk_drew ?_ | refine blk_alloc ?_ _)); exact BV.out) hb)
          have n3_ := Aside0.mk (Kd.R_below (d := Kd.string) (e := 9) (base := w.heap.size) (ok := fun _ => True) (by (with_reducible repeat (first | apply Kd.R_alloc | apply Kd.R_drewN | apply Kd.R_drew)); exact HO.out) hb)
          clear HB BR BV HO
          have HB := n0_
          have BR := n1_
          have BV := n2_
          have HO := n3_
          clear n0_ n1_ n2_ n3_ hb
          have hnb := NE.out
          have hnc := NE.out.symm
          have cv0 : w5.cell? ⟨gv, 0, none⟩ = some (.int .i64 0) := (blk_cell BV.out 0).trans rfl
          have fv0 := blk_frozen BV.out 0
          have cr0 : w5.cell? ⟨gr, 0, none⟩ = some (.int .i64 0) := (blk_cell BR.out 0).trans rfl
          have cr1 : w5.cell? ⟨gr, 1, none⟩ = some (.int .i64 0) := (blk_cell BR.out 1).trans rfl
          have cr2 : w5.cell? ⟨gr, 2, none⟩ = some (.int .i64 0) := (blk_cell BR.out 2).trans rfl
          have cr3 : w5.cell? ⟨gr, 3, none⟩ = some (.slice none 0 0) := (blk_cell BR.out 3).trans rfl
          have fr0 := blk_frozen BR.out 0
          have fr1 := blk_frozen BR.out 1
          have fr2 := blk_frozen BR.out 2
          have fr3 := blk_frozen BR.out 3
          go_wp2
          refine bodyPost_ret (results_ct rfl _ _ gr 30 #[.int .i64 0, .int .i64 0, .int .i64 0, .slice none 0 0] (0, 0) _ rfl (by (with_reducible repeat (first | refine blk_drewN ?_ _ | refine blk_drew ?_ | refine blk_alloc ?_ _)); refine blk_put (cs := #[.int .i64 0, .int .i64 0, .int .i64 0, .slice none 0 0]) ?_ 3 _ rfl; (with_reducible repeat (first | refine blk_drewN ?_ _ | refine blk_drew ?_ | refine blk_alloc ?_ _)); refine blk_put (cs := #[.int .i64 0, .int .i64 0, .int .i64 0, .slice none 0 0]) ?_ 2 _ rfl; (with_reducible repeat (first | refine blk_drewN ?_ _ | refine blk_drew ?_ | refine blk_alloc ?_ _)); refine blk_put (cs := #[.int .i64 0, .int .i64 0, .int .i64 0, .slice none 0 0]) ?_ 1 _ rfl; (with_reducible repeat (first | refine blk_drewN ?_ _ | refine blk_drew ?_ | refine blk_alloc ?_ _)); refine blk_put (cs := #[.int .i64 0, .int .i64 0, .int .i64 0, .slice none 0 0]) ?_ 0 _ rfl; (with_reducible repeat (first | refine blk_drewN ?_ _ | refine blk_drew ?_ | refine blk_alloc ?_ _)); exact BR.out) Tryd.underlying30 rfl (by kernel_rfl)) rfl ?_
          exact ⟨_, rfl, Kd.R_nil _ _ _ _ _, by repeat (first | (with_reducible first | exact HB.out | apply below_alloc | apply pw_below_drewN | apply below_drew1 | refine below_set ?_ GR.out | refine below_set ?_ GV.out) | exact HB.out)⟩
        | true =>
          have RST := Aside0.mk H
          clear H
          go_wp2_with (fail)
          (with_reducible refine (impl_ParseNum.calls k (rdOf ByteArray.empty ps 0) 9999 n true _ ?hgw PN.out).mono ?_)
          (case hgw => exact GW.below HG.out (by repeat (first | (with_reducible first | exact HB.out | apply below_alloc | apply pw_below_drewN | apply below_drew1) | exact HB.out)))
          rintro e w5 ⟨rfl, hb⟩
          have n0_ := Aside0.mk (below_step (by repeat (first | (with_reducible first | exact HB.out | apply below_alloc | apply pw_below_drewN | apply below_drew1) | exact HB.out)) hb)
          have n1_ := Aside0.mk (blk_below (g := gr) (o := .cells #[.int .i64 0, .int .i64 0, .int .i64 0, .slice none 0 0] 30 (0, 0)) (by (with_reducible repeat (first | refine blk_drewN ?_ _ | refine blk_drew ?_ | refine blk_alloc ?_ _)); exact BR.out) hb)
          have n2_ := Aside0.mk (blk_below (g := gv) (o := .cells #[.int .i64 0, .int .i64 0, .int .i64 0, .slice none 0 0] 30 (0, 0)) (by (with_reducible repeat (first | refine blk_drewN ?_ _ | refine blk_drew ?_ | refine blk_alloc ?_ _)); exact BV.out) hb)
          have n3_ := Aside0.mk (Kd.R_below (d := Kd.string) (e := 9) (base := w.heap.size) (ok := fun _ => True) (by (with_reducible repeat (first | apply Kd.R_alloc | apply Kd.R_drewN | apply Kd.R_drew)); exact HO.out) hb)
          clear HB BR BV HO
          have HB := n0_
          have BR := n1_
          have BV := n2_
          have HO := n3_
          clear n0_ n1_ n2_ n3_ hb
          have hnb := NE.out
          have hnc := NE.out.symm
          have cv0 : w5.cell? ⟨gv, 0, none⟩ = some (.int .i64 0) := (blk_cell BV.out 0).trans rfl
          have fv0 := blk_frozen BV.out 0
          have cr0 : w5.cell? ⟨gr, 0, none⟩ = some (.int .i64 0) := (blk_cell BR.out 0).trans rfl
          have cr1 : w5.cell? ⟨gr, 1, none⟩ = some (.int .i64 0) := (blk_cell BR.out 1).trans rfl
          have cr2 : w5.cell? ⟨gr, 2, none⟩ = some (.int .i64 0) := (blk_cell BR.out 2).trans rfl
          have cr3 : w5.cell? ⟨gr, 3, none⟩ = some (.slice none 0 0) := (blk_cell BR.out 3).trans rfl
          have fr0 := blk_frozen BR.out 0
          have fr1 := blk_frozen BR.out 1
          have fr2 := blk_frozen BR.out 2
          have fr3 := blk_frozen BR.out 3
          go_wp2
          go_roundg 2
          case measure => omega
          case rel => exact ⟨2, n, 0, 0, by omega, by omega, by first | rfl | go_num, by first | omega | (intro _; omega), by first | omega | (intro _; first | rfl | omega), by first | omega | (intro _; first | rfl | omega), RST, ⟨by repeat (first | (with_reducible first | exact HB.out | apply below_alloc | apply pw_below_drewN | apply below_drew1 | refine below_set ?_ GR.out | refine below_set ?_ GV.out) | exact HB.out)⟩,
            ⟨by (with_reducible repeat (first | refine blk_drewN ?_ _ | refine blk_drew ?_ | refine blk_alloc ?_ _)); refine blk_far ?_ NE.out _; (with_reducible repeat (first | refine blk_drewN ?_ _ | refine blk_drew ?_ | refine blk_alloc ?_ _)); exact BR.out⟩, ⟨by (with_reducible repeat (first | refine blk_drewN ?_ _ | refine blk_drew ?_ | refine blk_alloc ?_ _)); refine blk_put (cs := #[.int .i64 0, .int .i64 0, .int .i64 0, .slice none 0 0]) ?_ 0 _ rfl; (with_reducible repeat (first | refine blk_drewN ?_ _ | refine blk_drew ?_ | refine blk_alloc ?_ _)); exact BV.out⟩, ⟨Kd.R_set (by (with_reducible repeat (first | apply Kd.R_alloc | apply Kd.R_drewN | apply Kd.R_drew)); exact HO.out) BV.out (by decide) _ _⟩⟩
  · rw [if_neg hlen] at h
    simp only [impl_ParseVer.no, Option.some.injEq, Prod.mk.injEq] at h
    obtain ⟨rfl, rfl, rfl, rfl, rfl⟩ := h
    have hl3 : ((ps.length : Int) == 3) = false := by simpa using fun e => hlen (by omega)
    have hl3' : ((ps.length : Int) != 3) = true := by simpa using fun e => hlen (by omega)
    clear hlen
    go_enter Tryd.func26, Tryd.ntmps26
    go_wp2_with (first
      | ((with_reducible refine gate_dst (N := 2) rfl ?_); refine box_event ?hg (N := 2) ?hd (cs := #[.int .i64 0, .int .i64 0, .int .i64 0, .slice none 0 0]) (t := 30) ?hr ?_; (case hd => rfl); (case hg => rfl); (case hr => first | (go_simp; done) | (go_simp; rfl));
         intro gr hg w1 hbox hb; have n0_ := Aside0.mk (below_step HB.out hb); have BR := Aside0.mk hbox; have GR := Aside0.mk ((by rw [hg]; exact Nat.le_refl _) : w.heap.size ≤ gr); clear HB; have HB := n0_; clear n0_; clear hb hbox hg)
      | (go_at_call 54; (with_reducible refine (strings_Cut.calls a0 (⟨#[45]⟩ : ByteArray) num pre has _ ?hgw CUT.out).mono ?_); (case hgw => exact GW.below HG.out HB.out); rintro e w2 ⟨rfl, hb⟩;
         have n0_ := Aside0.mk (below_step HB.out hb); have n1_ := Aside0.mk (blk_below BR.out hb); clear HB BR; have HB := n0_; have BR := n1_; clear n0_ n1_ hb)
      | (go_at_call 55; (with_reducible refine (strings_Split.calls num (⟨#[46]⟩ : ByteArray) ps _ ?hgw SPL.out).mono ?_); (case hgw => exact GW.below HG.out HB.out); rintro e w3 ⟨v3, rfl, ho, hb⟩;
         have n0_ := Aside0.mk (below_step HB.out hb); have n1_ := Aside0.mk (blk_below BR.out hb); have HO := Aside0.mk (Kd.R_lower ho (below_size HB.out)); clear HB BR; have HB := n0_; have BR := n1_; clear n0_ n1_ hb ho;
         obtain ⟨Ao, co, eo⟩ := Kd.R_slice HO.out; subst eo; have hnb_ := trivial; have rc0 : w3.cell? ⟨gr, 0, none⟩ = some (.int .i64 0) := (blk_cell BR.out 0).trans rfl; have rf0 := blk_frozen BR.out 0; have rc1 : w3.cell? ⟨gr, 1, none⟩ = some (.int .i64 0) := (blk_cell BR.out 1).trans rfl; have rf1 := blk_frozen BR.out 1; have rc2 : w3.cell? ⟨gr, 2, none⟩ = some (.int .i64 0) := (blk_cell BR.out 2).trans rfl; have rf2 := blk_frozen BR.out 2; have rc3 : w3.cell? ⟨gr, 3, none⟩ = some (.slice none 0 0) := (blk_cell BR.out 3).trans rfl; have rf3 := blk_frozen BR.out 3))
    refine bodyPost_ret (results_ct rfl _ _ gr 30 #[.int .i64 0, .int .i64 0, .int .i64 0, .slice none 0 0] (0, 0) _ rfl (by (with_reducible repeat (first | refine blk_drewN ?_ _ | refine blk_drew ?_ | refine blk_alloc ?_ _)); refine blk_put (cs := #[.int .i64 0, .int .i64 0, .int .i64 0, .slice none 0 0]) ?_ 3 _ rfl; (with_reducible repeat (first | refine blk_drewN ?_ _ | refine blk_drew ?_ | refine blk_alloc ?_ _)); refine blk_put (cs := #[.int .i64 0, .int .i64 0, .int .i64 0, .slice none 0 0]) ?_ 2 _ rfl; (with_reducible repeat (first | refine blk_drewN ?_ _ | refine blk_drew ?_ | refine blk_alloc ?_ _)); refine blk_put (cs := #[.int .i64 0, .int .i64 0, .int .i64 0, .slice none 0 0]) ?_ 1 _ rfl; (with_reducible repeat (first | refine blk_drewN ?_ _ | refine blk_drew ?_ | refine blk_alloc ?_ _)); refine blk_put (cs := #[.int .i64 0, .int .i64 0, .int .i64 0, .slice none 0 0]) ?_ 0 _ rfl; (with_reducible repeat (first | refine blk_drewN ?_ _ | refine blk_drew ?_ | refine blk_alloc ?_ _)); exact BR.out) Tryd.underlying30 rfl (by kernel_rfl)) rfl ?_
    exact ⟨_, rfl, Kd.R_nil _ _ _ _ _, by repeat (first | (with_reducible first | exact HB.out | apply below_alloc | apply pw_below_drewN | apply below_drew1 | refine below_set ?_ GR.out) | exact HB.out)⟩

/-! ### laws_markText: function 74 -/
mutual
def laws_markText.j0 : Nat → Int → Option (ByteArray)
  | 0, _ => none
  | k + 1, x0 => laws_markText.l0 k x0 (⟨#[]⟩ : ByteArray)
def laws_markText.l0 : Nat → Int → ByteArray → Option (ByteArray)
  | 0, _, _ => none
  | k + 1, x0, x3 => if x0 > 0 then ((some (([(wrap64 (48 + (Int.tmod x0 10))) % 256] : List Int) : List Int)).bind fun y171 => (if (strOfNums y171).size + x3.size ≤ 9223372036854775807 then (laws_markText.l0 k (wrap64 (Int.tdiv x0 10)) ((strOfNums y171) ++ x3)) else (none))) else (if 1 + x3.size ≤ 9223372036854775807 then (some ((⟨#[109]⟩ : ByteArray) ++ x3)) else (none))
end
def laws_markText.f (k : Nat) (a0 : Int) : Option (ByteArray) := if a0 ≤ 0 then (some (⟨#[109, 48]⟩ : ByteArray)) else (laws_markText.j0 k a0)
set_option maxHeartbeats 8000000 in
set_option maxRecDepth 100000 in
theorem laws_markText.calls (k : Nat) (a0 : Int) (r : ByteArray) (w : World) (h : laws_markText.f k a0 = some r) :
    Calls Tryd.prog 74 #[.int .i64 a0] w fun e w' => e = .returned (.string r) ∧ Below w.heap.size w w' := by
  have HB := Aside0.mk (Below.refl w.heap.size w)
  have H : (if a0 ≤ 0 then (some (⟨#[109, 48]⟩ : ByteArray)) else (laws_markText.j0 k a0)) = some r := h
  clear h
  have HC2 := Aside0.mk H
  clear H
  go_enter Tryd.func74, Tryd.ntmps74
  go_upto_if 5 with (fail)
  go_cut [] (fun wc => ∃ (kq : Nat), Aside0 (laws_markText.j0 kq a0 = some r) ∧ Aside0 (kq ≤ k) ∧ Aside0 (Below w.heap.size w wc))
  case first =>
    have H := HC2.out
    clear HC2
    by_cases c3 : a0 ≤ 0
    · rw [if_pos c3] at H
      have c3b0 : decide (a0 ≤ 0) = true := decide_eq_true c3
      clear c3
      (first | rw [c3b0] | (simp only [i64_w, i32_w]; rw [c3b0]) | skip)
      obtain rfl := Option.some.inj H
      go_wp2
      go_ret
      exact ⟨by first | rfl | (simp [errW_none, errW_some] <;> rfl) | (simp [*, errW_none, errW_some] <;> rfl), by repeat (first | (with_reducible first | exact HB.out | apply below_alloc | apply pw_below_drewN | apply below_drew1) | exact HB.out)⟩
    · rw [if_neg c3] at H
      have c3b0 : decide (a0 ≤ 0) = false := decide_eq_false c3
      clear c3
      (first | rw [c3b0] | (simp only [i64_w, i32_w]; rw [c3b0]) | skip)
      have H' := Aside0.mk H
      clear H
      go_wp2
      go_meet
      case rel => exact ⟨_, (by first | exact H' | (subst_vars; exact H')), ⟨by first | omega | exact Nat.le_refl _⟩, ⟨by repeat (first | (with_reducible first | exact HB.out | apply below_alloc | apply pw_below_drewN | apply below_drew1) | exact HB.out)⟩⟩
  case rest =>
    clear HC2
    try clear p2
    try clear c3
    try clear c3b0
    obtain ⟨kq, HA, HJ1, HB⟩ := hcut
    cases kq with
    | zero => exact absurd HA.out (by simp [laws_markText.j0])
    | succ kj1 =>
      have H := HA.out
      clear HA
      simp only [laws_markText.j0] at H
      have H' := Aside0.mk H
      clear H
      go_wp2
      go_loopg [0, 3] kj1 (fun kq v0 v3 w' => ∃ (x0_2 : Int) (x3_2 : ByteArray), v0 = .int .i64 x0_2 ∧ v3 = .string x3_2 ∧ Aside0 (laws_markText.l0 kq x0_2 x3_2 = some r) ∧ Aside0 (kq ≤ kj1) ∧ Aside0 (Below w.heap.size w w'))
      case atStart => exact ⟨(a0), ((⟨#[]⟩ : ByteArray)), (by first | rfl | (simp; done) | (simp [*]; done) | (simp; rw [Bool.eq_iff_iff]; simp; done)), (by first | rfl | (simp; done) | (simp [*]; done) | (simp; rw [Bool.eq_iff_iff]; simp; done)), H', ⟨Nat.le_refl _⟩, ⟨by repeat (first | (with_reducible first | exact HB.out | apply below_alloc | apply pw_below_drewN | apply below_drew1) | exact HB.out)⟩⟩
      case round =>
        clear H'
        try clear p2
        try clear c3
        try clear c3b0
        try clear p2
        obtain ⟨x0_2, x3_2, rfl, rfl, HA, HK2, HB⟩ := hrel
        cases gk with
        | zero => exact absurd HA.out (by simp [laws_markText.l0])
        | succ k2 =>
          have H := HA.out
          clear HA
          simp only [laws_markText.l0] at H
          by_cases c4 : x0_2 > 0
          · rw [if_pos c4] at H
            have c4b0 : decide (0 < x0_2) = true := decide_eq_true c4
            clear c4
            obtain ⟨y171, hy171⟩ : ∃ y_ : List Int, y_ = (([(wrap64 (48 + (Int.tmod x0_2 10))) % 256] : List Int)) := ⟨_, rfl⟩
            replace H : (if (strOfNums y171).size + x3_2.size ≤ 9223372036854775807 then (laws_markText.l0 k2 (wrap64 (Int.tdiv x0_2 10)) ((strOfNums y171) ++ x3_2)) else (none)) = some r := by first | (rw [hy171]; with_reducible exact H) | (have H2_ := (Option.bind_some _ _).symm.trans H; rw [hy171]; with_reducible exact H2_) | (have H2_ := (Option.bind_some _ _).symm.trans H; with_reducible exact H2_) | with_reducible exact H | (rw [hy171]; exact H) | exact H
            have Ny171 := Aside0.mk hy171
            clear hy171
            by_cases c5 : (strOfNums y171).size + x3_2.size ≤ 9223372036854775807
            · rw [if_pos c5] at H
              have c5b0 := eq_true c5
              have c5b1 : decide ((strOfNums y171).size + x3_2.size ≤ 9223372036854775807) = true := decide_eq_true c5
              try have c5b2 : (9223372036854775807 < (strOfNums y171).size + x3_2.size) = False := eq_false (Nat.not_lt.2 c5)
              have H' := Aside0.mk H
              clear H
              go_wp2_with (first | ((with_reducible refine gate_dst (N := 12) rfl ?_); refine Kd.R_lit (Kd.int .u8) _ 5 ?hg (N := 12) ?hd (xs := ([(wrap64 (48 + (Int.tmod x0_2 10))) % 256] : List Int)) (inner := [.int .u8 ((wrap64 (48 + (Int.tmod x0_2 10))) % 256)]) (ok := fun _ => True) (okp := fun _ => True) ?hr ?hp (fun _ hk => hk) trivial (Below.refl _ _) (Nat.le_refl _) (by simp) ?_; (case hd => rfl); (case hg => rfl); (case hr => first | (go_simp; done) | (go_simp; rfl)); (case hp => exact (Reps.one (show Kd.M (Kd.int .u8) _ _ _ ((wrap64 (48 + (Int.tmod x0_2 10))) % 256) [.int .u8 ((wrap64 (48 + (Int.tmod x0_2 10))) % 256)] from rfl) (Reps.none _ _))); intro v172 w6 ho7 hb hg_ hnew_; clear hg_ hnew_; (first | rw [← Ny171.out] at ho7 | (simp only [Int.reduceToNat] at ho7; rw [← Ny171.out] at ho7)); have n0_ := Aside0.mk (Kd.R_lower ho7 (below_size (by repeat (first | (with_reducible first | exact HB.out | apply below_alloc | apply pw_below_drewN | apply below_drew1) | exact HB.out)))); have n1_ := Aside0.mk (below_step (by repeat (first | (with_reducible first | exact HB.out | apply below_alloc | apply pw_below_drewN | apply below_drew1) | exact HB.out)) hb); clear HB; have HO173 := n0_; have HB := n1_; clear n0_ n1_; clear hb ho7; have hcv8 := own_string (P := Tryd.prog) Tryd.underlying82 Tryd.underlying5 Tryd.underlying9 (Kd.own_of_R HO173.out)))
              go_roundg k2
              case measure => have := HJ1.out; have := HK2.out; omega
              case rel => exact ⟨(wrap64 (Int.tdiv x0_2 10)), ((strOfNums y171) ++ x3_2), (by first | rfl | (simp; done) | (simp [*]; done) | (simp; rw [Bool.eq_iff_iff]; simp; done)), (by first | rfl | (simp; done) | (simp [*]; done) | (simp; rw [Bool.eq_iff_iff]; simp; done)), H', ⟨by have := HJ1.out; have := HK2.out; omega⟩, ⟨by repeat (first | (with_reducible first | exact HB.out | apply below_alloc | apply pw_below_drewN | apply below_drew1) | exact HB.out)⟩⟩
            · rw [if_neg c5] at H
              exact absurd H (by simp)
          · rw [if_neg c4] at H
            have c4b0 : decide (0 < x0_2) = false := decide_eq_false c4
            clear c4
            by_cases c9 : 1 + x3_2.size ≤ 9223372036854775807
            · rw [if_pos c9] at H
              have c9b0 := eq_true c9
              have c9b1 : decide (1 + x3_2.size ≤ 9223372036854775807) = true := decide_eq_true c9
              try have c9b2 : (9223372036854775807 < 1 + x3_2.size) = False := eq_false (Nat.not_lt.2 c9)
              obtain rfl := Option.some.inj H
              go_wp2
              go_ret
              exact ⟨by first | rfl | (simp [errW_none, errW_some] <;> rfl) | (simp [*, errW_none, errW_some] <;> rfl), by repeat (first | (with_reducible first | exact HB.out | apply below_alloc | apply pw_below_drewN | apply below_drew1) | exact HB.out)⟩
            · rw [if_neg c9] at H
              exact absurd H (by simp)

/-! ### laws_markStringS: function 56 -/
def laws_markStringS.l0 : Nat → List ByteArray → Int → Int → Option (Int × List ByteArray)
  | 0, _, _, _ => none
  | k + 1, x0, x1, x5 => if x5 < (x0.length : Int) then ((laws_markText.f k x1).bind fun t174 => (if 0 ≤ x5 then (laws_markStringS.l0 k (x0.set (x5 : Int).toNat t174) (wrap64 (x1 + 1)) (wrap64 (x5 + 1))) else (none))) else (some (x1, x0))
def laws_markStringS.f (k : Nat) (l0 : List ByteArray) (a1 : Int) : Option (Int × List ByteArray) := laws_markStringS.l0 k l0 a1 0
set_option maxHeartbeats 8000000 in
set_option maxRecDepth 100000 in
theorem laws_markStringS.calls (k : Nat) (P0_ : Nat → Prop) (u9000_ : Value) (l0 : List ByteArray) (a1 : Int) (r1 : Int) (r2 : List ByteArray) (w0 w : World) (hB : Below w0.heap.size w0 w) (ho0 : Kd.R Kd.string 9 w w0.heap.size P0_ u9000_ l0) (h : laws_markStringS.f k l0 a1 = some (r1, r2)) :
    Calls Tryd.prog 56 #[u9000_, .int .i64 a1] w fun e w' => e = .returned (.int .i64 r1) ∧ Kd.R Kd.string 9 w' w0.heap.size (fun k_ => (P0_ k_ ∨ w.heap.size ≤ k_)) u9000_ r2 ∧ Below w0.heap.size w0 w' ∧ Kept w w' (fun k_ => P0_ k_) := by
  have HO0 := Aside0.mk (show Kd.R Kd.string 9 w w0.heap.size (fun k_ => (P0_ k_ ∨ w.heap.size ≤ k_)) u9000_ l0 from Kd.R_mono ho0 (fun k_ hk => (.inl hk)))
  have HK := Aside0.mk (Kept.refl w (fun k_ => P0_ k_))
  have HW0 := Aside0.mk hB.size
  have HB := Aside0.mk hB
  clear hB
  have H : (laws_markStringS.l0 k l0 a1 0) = some (r1, r2) := h
  clear h
  have H' := Aside0.mk H
  clear H
  go_enter Tryd.func56, Tryd.ntmps56
  go_wp2
  go_loopg [1, 5] k (fun kq v1 v5 w' => ∃ (x0_1 : List ByteArray) (x1_1 : Int) (x5_1 : Int), v1 = .int .i64 x1_1 ∧ v5 = .int .i64 x5_1 ∧ Aside0 (laws_markStringS.l0 kq x0_1 x1_1 x5_1 = some (r1, r2)) ∧ Aside0 (kq ≤ k) ∧ Aside0 (Kd.R Kd.string 9 w' w0.heap.size (fun k_ => (P0_ k_ ∨ w.heap.size ≤ k_)) u9000_ x0_1) ∧ Aside0 (Kept w w' (fun k_ => P0_ k_)) ∧ Aside0 (Below w0.heap.size w0 w'))
  case atStart => exact ⟨(l0), (a1), (0), (by first | rfl | (simp; done) | (simp [*]; done) | (simp; rw [Bool.eq_iff_iff]; simp; done)), (by first | rfl | (simp; done) | (simp [*]; done) | (simp; rw [Bool.eq_iff_iff]; simp; done)), H', ⟨Nat.le_refl _⟩, ⟨by (with_reducible repeat (first | apply Kd.R_alloc | apply Kd.R_drewN | apply Kd.R_drew)); exact HO0.out⟩, ⟨by repeat (first | (with_reducible first | exact HK.out | apply Kept.alloc | apply Kept.drewN | apply Kept.drew) | exact HK.out)⟩, ⟨by repeat (first | (with_reducible first | exact HB.out | apply below_alloc | apply pw_below_drewN | apply below_drew1) | exact HB.out)⟩⟩
  case round =>
    clear H'
    try clear p2
    obtain ⟨x0_1, x1_1, x5_1, rfl, rfl, HA, HK1, HO_0, HK, HB⟩ := hrel
    cases gk with
    | zero => exact absurd HA.out (by simp [laws_markStringS.l0])
    | succ k1 =>
      have H := HA.out
      clear HA
      simp only [laws_markStringS.l0] at H
      by_cases c3 : x5_1 < (x0_1.length : Int)
      · rw [if_pos c3] at H
        have c3b0 : decide (x5_1 < (x0_1.length : Int)) = true := decide_eq_true c3
        clear c3
        replace H := Option.bind_eq_some_iff.mp H
        obtain ⟨t174, A40, H⟩ := H
        replace H : (if 0 ≤ x5_1 then (laws_markStringS.l0 k1 (x0_1.set (x5_1 : Int).toNat t174) (wrap64 (x1_1 + 1)) (wrap64 (x5_1 + 1))) else (none)) = some (r1, r2) := H
        have A4 := Aside0.mk A40
        clear A40
        by_cases c5 : 0 ≤ x5_1
        · rw [if_pos c5] at H
          have c5b0 : decide (0 ≤ x5_1) = true := decide_eq_true c5
          clear c5
          obtain ⟨y175, hy175⟩ : ∃ y_ : List ByteArray, y_ = (x0_1.set (x5_1 : Int).toNat t174) := ⟨_, rfl⟩
          replace H : (laws_markStringS.l0 k1 y175 (wrap64 (x1_1 + 1)) (wrap64 (x5_1 + 1))) = some (r1, r2) := by first | (rw [hy175]; with_reducible exact H) | (have H2_ := (Option.bind_some _ _).symm.trans H; rw [hy175]; with_reducible exact H2_) | (have H2_ := (Option.bind_some _ _).symm.trans H; with_reducible exact H2_) | with_reducible exact H | (rw [hy175]; exact H) | exact H
          have Ny175 := Aside0.mk hy175
          clear hy175
          have H' := Aside0.mk H
          clear H
          obtain ⟨Ao7, co7, eo7⟩ := Kd.R_slice HO_0.out
          subst eo7
          go_wp2_with (first | ((with_reducible refine gate_callee (f := 74) rfl ?_); refine goesL_ (some 15) rfl rfl Tryd.func74 (by kernel_rfl) rfl #[.int .i64 x1_1] rfl (by (try simp only [List.map_toArray, List.map_cons, List.map_nil]); first | done | rfl | (simp only [List.length_drop, List.length_take]; rfl)) ?_; (with_reducible refine (laws_markText.calls k1 x1_1 t174 _ A4.out).mono ?_); rintro e w8 ⟨rfl, hb⟩; refine ⟨_, rfl, ?_⟩; have n0_ := Aside0.mk (Kd.R_below (by (with_reducible repeat (first | apply Kd.R_alloc | apply Kd.R_drewN | apply Kd.R_drew)); exact HO_0.out) hb); have n1_ := Aside0.mk (Kept.below (S := (fun k_ => P0_ k_)) (by repeat (first | (with_reducible first | exact HK.out | apply Kept.alloc | apply Kept.drewN | apply Kept.drew) | exact HK.out)) hb); have n2_ := Aside0.mk (below_step (by repeat (first | (with_reducible first | exact HB.out | apply below_alloc | apply pw_below_drewN | apply below_drew1) | exact HB.out)) hb); clear HO_0; clear HK; clear HB; have HO_0 := n0_; have HK := n1_; have HB := n2_; clear n0_ n1_ n2_; (try clear hb); (try clear hb2); (try clear hk); (try clear hi); have p6 : 0 ≤ (x5_1 : Int) := of_decide_eq_true (by first | (with_reducible assumption) | assumption); have q6 : (x5_1 : Int) < ((x0_1.length : Int) : Int) := of_decide_eq_true (by first | (with_reducible assumption) | assumption); obtain ⟨go6, co6, eo6, gb6, gl6, cl6, HG6⟩ := Kd.R_form HO_0.out (by omega); (first | cases eo6 | (injection eo6 with ea_ en_ ec_; (first | subst ea_ | (injection ea_ with ea_; subst ea_)); subst ec_; clear en_)); have GB6 := Aside0.mk gb6; have GG6 := Aside0.mk HG6; clear gb6 gl6 HG6; have HMgo6 := Aside0.mk (show (P0_ go6 ∨ w.heap.size ≤ go6) from (HO_0.out.1 _ rfl)); obtain ⟨hx6_0, hf6_0⟩ := Kd.R_celln (⟨#[]⟩ : ByteArray) HO_0.out (x5_1 : Int) p6 q6; replace p6 := eq_true p6; replace q6 := eq_true q6; obtain ⟨hy9_, hz9_⟩ := Kd.R_celln (⟨#[]⟩ : ByteArray) HO_0.out (x5_1 : Int) (of_decide_eq_true (by first | (with_reducible assumption) | assumption)) (of_decide_eq_true (by first | (with_reducible assumption) | assumption)); have HP9 := Kd.R_putg HO_0.out (x5_1 : Int) t174) | ((with_reducible refine gate_store (t := 9) (p := 16) rfl ?_); refine store_event (t := 9) (p := 16) (v := ?vo_w10) (w1 := (w8.setCell ⟨go6, (x5_1 : Int).toNat, none⟩ (.string t174))) ?hg ?ho ?hn ?hr ?_; (case ho => rfl); (case hg => rfl); (case hn => rfl); (case hr => first | (go_simp; done) | (go_simp; rfl)); intro w10 hw; have hg : w8.grownBy w10 (some go6) := (by rw [hw]; exact HP9.2); have hp_ : Kd.R Kd.string 9 w10 w0.heap.size (fun k_ => (P0_ k_ ∨ w.heap.size ≤ k_)) (.slice (some ⟨go6, 0, none⟩) x0_1.length co7) y175 := (by rw [hw, Ny175.out]; exact HP9.1); clear HP9; have n0_ := Aside0.mk (hp_); have n1_ := Aside0.mk ((by rw [hw]; exact below_set (HB.out) GB6.out : Below w0.heap.size w0 w10)); have n2_ := Aside0.mk (Kept.of_grown (S := (fun k_ => P0_ k_)) hg (by repeat (first | (with_reducible first | exact HK.out | apply Kept.alloc | apply Kept.drewN | apply Kept.drew) | exact HK.out)) (fun k_ e_ => (HO_0.out.1 k_ e_))); clear HO_0; clear HB; clear HK; have HO_0 := n0_; have HB := n1_; have HK := n2_; clear n0_ n1_ n2_; clear hg hw hp_))
          go_roundg k1
          case measure => have := HK1.out; omega
          case rel => exact ⟨(y175), (wrap64 (x1_1 + 1)), (wrap64 (x5_1 + 1)), (by first | rfl | (simp; done) | (simp [*]; done) | (simp; rw [Bool.eq_iff_iff]; simp; done)), (by first | rfl | (simp; done) | (simp [*]; done) | (simp; rw [Bool.eq_iff_iff]; simp; done)), H', ⟨by have := HK1.out; omega⟩, ⟨by (with_reducible repeat (first | apply Kd.R_alloc | apply Kd.R_drewN | apply Kd.R_drew)); exact HO_0.out⟩, ⟨by repeat (first | (with_reducible first | exact HK.out | apply Kept.alloc | apply Kept.drewN | apply Kept.drew) | exact HK.out)⟩, ⟨by repeat (first | (with_reducible first | exact HB.out | apply below_alloc | apply pw_below_drewN | apply below_drew1) | exact HB.out)⟩⟩
        · rw [if_neg c5] at H
          exact absurd H (by simp)
      · rw [if_neg c3] at H
        have c3b0 : decide (x5_1 < (x0_1.length : Int)) = false := decide_eq_false c3
        clear c3
        simp only [Option.some.injEq, Prod.mk.injEq] at H
        obtain ⟨rfl, rfl⟩ := H
        obtain ⟨Ao11, co11, eo11⟩ := Kd.R_slice HO_0.out
        subst eo11
        go_wp2
        go_ret
        exact ⟨by first | rfl | (simp [errW_none, errW_some] <;> rfl) | (simp [*, errW_none, errW_some] <;> rfl), by (with_reducible repeat (first | apply Kd.R_alloc | apply Kd.R_drewN | apply Kd.R_drew)); exact HO_0.out, by repeat (first | (with_reducible first | exact HB.out | apply below_alloc | apply pw_below_drewN | apply below_drew1) | exact HB.out), by repeat (first | (with_reducible first | exact HK.out | apply Kept.alloc | apply Kept.drewN | apply Kept.drew) | exact HK.out)⟩

/-! ### laws_markVer: function 27 -/
def laws_markVer.f (k : Nat) (a0_0 : Int) (a0_1 : Int) (a0_2 : Int) (l0_3 : List ByteArray) (a1 : Int) : Option (Int × List ByteArray) := (laws_markStringS.f k l0_3 a1).bind fun bt177 => (some (bt177.1, bt177.2))
set_option maxHeartbeats 8000000 in
set_option maxRecDepth 100000 in
theorem laws_markVer.calls (k : Nat) (a0_0 : Int) (a0_1 : Int) (a0_2 : Int) (P0_3_ : Nat → Prop) (u9000_ : Value) (l0_3 : List ByteArray) (a1 : Int) (r1 : Int) (r2 : List ByteArray) (w0 w : World) (hB : Below w0.heap.size w0 w) (ho0_3 : Kd.R Kd.string 9 w w0.heap.size P0_3_ u9000_ l0_3) (h : laws_markVer.f k a0_0 a0_1 a0_2 l0_3 a1 = some (r1, r2)) :
    Calls Tryd.prog 27 #[.agg #[.int .i64 a0_0, .int .i64 a0_1, .int .i64 a0_2, u9000_], .int .i64 a1] w fun e w' => e = .returned (.int .i64 r1) ∧ Kd.R Kd.string 9 w' w0.heap.size (fun k_ => (P0_3_ k_ ∨ w.heap.size ≤ k_)) u9000_ r2 ∧ Below w0.heap.size w0 w' ∧ Kept w w' (fun k_ => P0_3_ k_) := by
  have hu30 := Tryd.underlying30
  have HO0_3 := Aside0.mk (show Kd.R Kd.string 9 w w0.heap.size (fun k_ => (P0_3_ k_ ∨ w.heap.size ≤ k_)) u9000_ l0_3 from Kd.R_mono ho0_3 (fun k_ hk => (.inl hk)))
  have HK := Aside0.mk (Kept.refl w (fun k_ => P0_3_ k_))
  have HW0 := Aside0.mk hB.size
  have HB := Aside0.mk hB
  clear hB
  have H : ((laws_markStringS.f k l0_3 a1).bind fun bt177 => (some (bt177.1, bt177.2))) = some (r1, r2) := h
  clear h
  replace H := Option.bind_eq_some_iff.mp H
  obtain ⟨⟨t177, t178⟩, A30, H⟩ := H
  replace H : (some (t177, t178)) = some (r1, r2) := H
  have A3 := Aside0.mk A30
  clear A30
  simp only [Option.some.injEq, Prod.mk.injEq] at H
  obtain ⟨rfl, rfl⟩ := H
  obtain ⟨Ao4, co4, eo4⟩ := Kd.R_slice HO0_3.out
  subst eo4
  go_enter Tryd.func27, Tryd.ntmps27
  go_wp2_with (first | ((with_reducible refine gate_dst (N := 2) rfl ?_); refine box_event ?hg (N := 2) ?hd (cs := #[.int .i64 a0_0, .int .i64 a0_1, .int .i64 a0_2, .slice Ao4 l0_3.length co4]) (t := 30) ?hr ?_; (case hd => rfl); (case hg => rfl); (case hr => first | (go_simp; done) | (go_simp; rfl)); intro gb176 hg w5 hbox hb; have n0_ := Aside0.mk (Kd.R_below (by (with_reducible repeat (first | apply Kd.R_alloc | apply Kd.R_drewN | apply Kd.R_drew)); exact HO0_3.out) hb); have n1_ := Aside0.mk (Kept.below (S := (fun k_ => P0_3_ k_)) (by repeat (first | (with_reducible first | exact HK.out | apply Kept.alloc | apply Kept.drewN | apply Kept.drew) | exact HK.out)) hb); have n2_ := Aside0.mk (below_step (by repeat (first | (with_reducible first | exact HB.out | apply below_alloc | apply pw_below_drewN | apply below_drew1) | exact HB.out)) hb); have n3_ := Aside0.mk (hbox); have n4_ := Aside0.mk ((by rw [hg]; exact (by first | exact HK.out.1 | exact (show Kept w _ (fun k_ => P0_3_ k_) from by repeat (first | (with_reducible first | exact HK.out | apply Kept.alloc | apply Kept.drewN | apply Kept.drew) | exact HK.out)).1) : w.heap.size ≤ gb176)); have n5_ := Aside0.mk ((by rw [hg]; exact (below_size (by repeat (first | (with_reducible first | exact HB.out | apply below_alloc | apply pw_below_drewN | apply below_drew1) | exact HB.out))) : w0.heap.size ≤ gb176)); clear HO0_3; clear HK; clear HB; have HO0_3 := n0_; have HK := n1_; have HB := n2_; have BK176 := n3_; have GW176 := n4_; have GE176 := n5_; clear n0_ n1_ n2_ n3_ n4_ n5_; clear hb hbox hg; have hcz6_0 : w5.cell? ⟨gb176, 0, none⟩ = some (.int .i64 a0_0) := (blk_cell BK176.out 0).trans rfl; have hcz6_1 : w5.cell? ⟨gb176, 1, none⟩ = some (.int .i64 a0_1) := (blk_cell BK176.out 1).trans rfl; have hcz6_2 : w5.cell? ⟨gb176, 2, none⟩ = some (.int .i64 a0_2) := (blk_cell BK176.out 2).trans rfl; have hcz6_3 : w5.cell? ⟨gb176, 3, none⟩ = some (.slice Ao4 l0_3.length co4) := (blk_cell BK176.out 3).trans rfl; have hfz6_0 := blk_frozen BK176.out 0; have hfz6_1 := blk_frozen BK176.out 1; have hfz6_2 := blk_frozen BK176.out 2; have hfz6_3 := blk_frozen BK176.out 3) | ((with_reducible refine gate_callee (f := 56) rfl ?_); refine goesL_ (some 8) rfl rfl Tryd.func56 (by kernel_rfl) rfl #[.slice Ao4 l0_3.length co4, .int .i64 a1] rfl (by (try simp only [List.map_toArray, List.map_cons, List.map_nil]); first | done | rfl | (simp only [List.length_drop, List.length_take]; rfl)) ?_; (with_reducible refine (laws_markStringS.calls k (fun k_ => some k_ = (.slice Ao4 l0_3.length co4 : Value).ownBlock) (.slice Ao4 l0_3.length co4) l0_3 a1 t177 t178 w0 _ ?side1 ?side2 A3.out).mono ?_); (case side1 => repeat (first | (with_reducible first | exact HB.out | apply below_alloc | apply pw_below_drewN | apply below_drew1 | refine below_set ?_ GE176.out) | exact HB.out)); (case side2 => exact Kd.R_tight rfl HO0_3.out); rintro e w7 ⟨rfl, hy0, hb, hkp⟩; refine ⟨_, rfl, ?_⟩; have n0_ := Aside0.mk (Kd.R_reok rfl hy0 (fun k_ e_ => HO0_3.out.1 k_ e_)); have n1_ := Aside0.mk (blk_kept (by (with_reducible repeat (first | refine blk_drewN ?_ _ | refine blk_drew ?_ | refine blk_alloc ?_ _)); exact BK176.out) hkp (fun hs_ => (fun e_ => (Kd.R_ne HO0_3.out BK176.out (by decide)) e_) hs_)); have n2_ := Aside0.mk (Kept.then_ (S := (fun k_ => P0_3_ k_)) (by repeat (first | (with_reducible first | exact HK.out | apply Kept.alloc | apply Kept.drewN | apply Kept.drew | refine Kept.setCell ?_ (.inr GW176.out) _) | exact HK.out)) hkp (fun k_ hs_ => (fun e_ => (HO0_3.out.1 k_ e_.symm)) hs_)); have n3_ := Aside0.mk (hb); clear HO0_3; clear BK176; clear HK; clear HB; have HO0_3 := n0_; have BK176 := n1_; have HK := n2_; have HB := n3_; clear n0_ n1_ n2_ n3_; (try clear hb); (try clear hkp); (try clear hy0)))
  go_ret
  exact ⟨by first | rfl | (simp [errW_none, errW_some] <;> rfl) | (simp [*, errW_none, errW_some] <;> rfl), by (with_reducible repeat (first | apply Kd.R_alloc | apply Kd.R_drewN | apply Kd.R_drew)); exact HO0_3.out, by repeat (first | (with_reducible first | exact HB.out | apply below_alloc | apply pw_below_drewN | apply below_drew1 | refine below_set ?_ GE176.out) | exact HB.out), by repeat (first | (with_reducible first | exact HK.out | apply Kept.alloc | apply Kept.drewN | apply Kept.drew | refine Kept.setCell ?_ (.inr GW176.out) _) | exact HK.out)⟩

end Go.Proofs.YtpmooegakomnbabDoor.PGD
