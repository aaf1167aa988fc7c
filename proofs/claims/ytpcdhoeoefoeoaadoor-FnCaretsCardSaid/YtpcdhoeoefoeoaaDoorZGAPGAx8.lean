/- The walks of the functions that these laws reach, and what each comes to: printed by this session's program. -/
import Derived.Test.YtpcdhoeoefoeoaaDoorZGAPGAx0
import Derived.Test.YtpcdhoeoefoeoaaDoorZGAPGAx3
import Derived.Test.YtpcdhoeoefoeoaaDoorZGAPGAx4
import Derived.Test.YtpcdhoeoefoeoaaDoorZGAPGAx5
import Derived.Test.YtpcdhoeoefoeoaaDoorZGAPGAx6
import Derived.Test.YtpcdhoeoefoeoaaDoorZGAPGAx7
import Derived.Test.YtpcdhoeoefoeoaaDoorZGASays
namespace Go.Proofs.YtpcdhoeoefoeoaaDoor.PGA
open Go.RowKit Go.Proofs.YtpcdhoeoefoeoaaDoorW.PrintWords Go.Proofs.YtpcdhoeoefoeoaaDoorW.PrintLast Go.Proofs.YtpcdhoeoefoeoaaDoorW.PrintMore
attribute [local go_sem high] Go.Proofs.YtpcdhoeoefoeoaaDoor.Mine.str_gtr Go.Proofs.YtpcdhoeoefoeoaaDoor.Mine.str_leq Go.Proofs.YtpcdhoeoefoeoaaDoor.Mine.str_geq
attribute [local go_sem] max2_int min2_int max_two min_two max_three min_three max_four min_four   -- for this text's walks alone
set_option linter.unusedVariables false
set_option maxHeartbeats 8000000
set_option maxRecDepth 100000
set_option linter.unusedSimpArgs false
/-! ### impl_cmpsOf: function 25 -/
theorem impl_cmpsOf.drawn {w w' : World} (h : Drawn0 w w') : Below w.heap.size w w' := by
 obtain ⟨n_, e_⟩ := h.out
 rw [e_]
 exact pw_below_drewN (Below.refl _ _) n_
def impl_cmpsOf.signs : List ByteArray := [(⟨#[94]⟩ : ByteArray), (⟨#[126]⟩ : ByteArray), (⟨#[62, 61]⟩ : ByteArray), (⟨#[62]⟩ : ByteArray), (⟨#[60, 61]⟩ : ByteArray), (⟨#[60]⟩ : ByteArray), (⟨#[61]⟩ : ByteArray), (⟨#[]⟩ : ByteArray)]
def impl_cmpsOf.go (k : Nat) (a0 : ByteArray) : List ByteArray → Option ((List (S57)) × Bool)
 | [] => some ([], false)
 | g :: r => (strings_CutPrefix.f a0 g).bind fun t => if t.2 = true then (impl_partOf.f k t.1).bind fun p => if p.2.2.2.2.2 = true then (impl_wordCmps.f k g p.1 p.2.1 p.2.2.1 p.2.2.2.1 p.2.2.2.2.1).bind fun l => some (l, true) else some ([], false) else impl_cmpsOf.go k a0 r
def impl_cmpsOf.f (k : Nat) (a0 : ByteArray) : Option ((List (S57)) × Bool) := if a0.toList = ([42] : List UInt8) then some ([(⟨4, (⟨0, 0, 0, ([] : List ByteArray)⟩ : S26)⟩ : S57)], true) else impl_cmpsOf.go k a0 impl_cmpsOf.signs
theorem impl_cmpsOf.at (m : Nat) (hm : m < 8) : ∃ g, impl_cmpsOf.signs.drop m = g :: impl_cmpsOf.signs.drop (m + 1) ∧ ∀ W : World, (Instr.index 89 (.agg #[.string ⟨#[94]⟩, .string ⟨#[126]⟩, .string ⟨#[62, 61]⟩, .string ⟨#[62]⟩, .string ⟨#[60, 61]⟩, .string ⟨#[60]⟩, .string ⟨#[61]⟩, .string ⟨#[]⟩]) (.int .i64 (m : Int))).run Tryd.prog W = .ok (.string g) W := by
 match m, hm with
 | 0, _ => exact ⟨_, rfl, fun W => by kernel_rfl⟩
 | 1, _ => exact ⟨_, rfl, fun W => by kernel_rfl⟩
 | 2, _ => exact ⟨_, rfl, fun W => by kernel_rfl⟩
 | 3, _ => exact ⟨_, rfl, fun W => by kernel_rfl⟩
 | 4, _ => exact ⟨_, rfl, fun W => by kernel_rfl⟩
 | 5, _ => exact ⟨_, rfl, fun W => by kernel_rfl⟩
 | 6, _ => exact ⟨_, rfl, fun W => by kernel_rfl⟩
 | 7, _ => exact ⟨_, rfl, fun W => by kernel_rfl⟩
 | m + 8, h => omega
theorem impl_cmpsOf.calls (k : Nat) (a0 : ByteArray) (r1 : List (S57)) (r2 : Bool) (w : World) (hG : GW w) (h : impl_cmpsOf.f k a0 = some (r1, r2)) :
  Calls Tryd.prog 25 #[.string a0] w fun e w' => ∃ v0_ : Value, e = .returned (.tuple #[v0_, .bool r2]) ∧ Kd.N k57 57 w' w.heap.size (fun k_ => (w.heap.size ≤ k_)) v0_ r1 ∧ Below w.heap.size w w' := by
 have hu_ := Tryd.underlying26
 have hu2_ := Tryd.underlying57
 have HG := Aside0.mk hG
 have HB := zA (Below.refl w.heap.size w)
 clear hG
 unfold impl_cmpsOf.f at h
 by_cases c3 : a0.toList = ([42] : List UInt8)
 ·rw [if_pos c3] at h
  have c3b0 : (a0.toList == ([42] : List UInt8)) = true := beq_iff_eq.mpr c3
  clear c3
  simp only [Option.some.injEq, Prod.mk.injEq] at h
  obtain ⟨rfl, rfl⟩ := h
  go_enter Tryd.func25, Tryd.ntmps25
  go_wp2_with (first | ((with_reducible refine gate_dst (N := 14) rfl ?_); refine Kd.N_lit k57 _ 57 ?hg (N' := 14) ?hd (xs := ([(⟨4, (⟨0, 0, 0, ([] : List ByteArray)⟩ : S26)⟩ : S57)] : List (S57))) (inner := [.int .i64 4, .int .i64 0, .int .i64 0, .int .i64 0, .slice none 0 0]) (ok := (fun k_ => (w.heap.size ≤ k_))) (okp := (fun k_ => (w.heap.size ≤ k_))) ?hr ?hp (fun _ hk => hk) ((show ∀ k_, w.heap.size ≤ k_ → (fun k_ => (w.heap.size ≤ k_)) k_ from fun k_ hk => (Nat.le_trans (below_size (zW HB.out)) hk)) _ (Nat.le_refl _)) (Below.refl _ _) (Nat.le_refl _) (by simp) ?_; (case hd => rfl); (case hg => rfl); (case hr => first | (go_simp; done) | (go_simp; rfl)); (case hp => exact (Reps.c5 (show Kd.FK k57 _ _ (⟨4, (⟨0, 0, 0, ([] : List ByteArray)⟩ : S26)⟩ : S57) [.int .i64 4, .int .i64 0, .int .i64 0, .int .i64 0, .slice none 0 0] from (k57_mkF _ _ (⟨4, (⟨0, 0, 0, ([] : List ByteArray)⟩ : S26)⟩ : S57) (Nat.le_refl _) (Kd.F_nil _ _ _))) (Reps.none _ _))); intro v314 w4 ho5 hb hg_ hnew_; clear hg_ hnew_; have HN := zA (Kd.N_lower ho5 (below_size (zW HB.out))); replace HB := zh HB hb; clear hb ho5))
  go_ret2
  exact ⟨_, rfl, by (with_reducible repeat (first | apply Kd.N_alloc | apply Kd.N_drewN | apply Kd.N_drew)); exact HN.out, zW HB.out⟩
 ·rw [if_neg c3] at h
  have c3b0 : (a0.toList == ([42] : List UInt8)) = false := beq_eq_false_iff_ne.mpr c3
  have REST := Aside0.mk h
  clear c3 h
  go_enter Tryd.func25, Tryd.ntmps25
  go_wp2
  go_loopg [16] 8 (fun gg s16 wr => ∃ m : Nat, m ≤ 8 ∧ 8 - m ≤ gg ∧ s16 = .int .i64 (m : Int) ∧ Aside0 (impl_cmpsOf.go k a0 (impl_cmpsOf.signs.drop m) = some (r1, r2)) ∧ Aside0 (Below w.heap.size w wr))
  case atStart => exact ⟨0, by omega, by omega, rfl, REST, ⟨zW HB.out⟩⟩
  case round =>
   clear REST HB
   obtain ⟨m, hm8, hmg, rfl, REST, HB⟩ := hrel
   have H := REST.out
   clear REST
   by_cases hm : m < 8
   ·obtain ⟨g, hdrop, hidx⟩ := impl_cmpsOf.at m hm
    rw [hdrop] at H
    have hlt : (m : Int) < 8 := by omega
    replace H : ((strings_CutPrefix.f a0 g).bind fun t => if t.2 = true then (impl_partOf.f k t.1).bind fun p => if p.2.2.2.2.2 = true then (impl_wordCmps.f k g p.1 p.2.1 p.2.2.1 p.2.2.2.1 p.2.2.2.2.1).bind fun l => some (l, true) else some ([], false) else impl_cmpsOf.go k a0 (impl_cmpsOf.signs.drop (m + 1))) = some (r1, r2) := H
    replace H := Option.bind_eq_some_iff.mp H
    obtain ⟨⟨rest, has⟩, ht, H⟩ := H
    have CP := Aside0.mk ht
    clear ht hdrop
    cases has with
    | false =>
     replace H : impl_cmpsOf.go k a0 (impl_cmpsOf.signs.drop (m + 1)) = some (r1, r2) := H
     have RST := Aside0.mk H
     clear H
     go_wp2_with (first
      | (go_at_call 50; (with_reducible refine (strings_CutPrefix.calls a0 g rest false _ CP.out).mono ?_); rintro e w2 ⟨rfl, hd⟩; replace HB := zA (below_step (zW HB.out) (impl_cmpsOf.drawn hd)); clear hd))
     go_roundg (8 - (m + 1))
     case measure => omega
     case rel => exact ⟨m + 1, by omega, by omega, by go_num, RST, ⟨zW HB.out⟩⟩
    | true =>
     replace H : ((impl_partOf.f k rest).bind fun p => if p.2.2.2.2.2 = true then (impl_wordCmps.f k g p.1 p.2.1 p.2.2.1 p.2.2.2.1 p.2.2.2.2.1).bind fun l => some (l, true) else some ([], false)) = some (r1, r2) := H
     replace H := Option.bind_eq_some_iff.mp H
     obtain ⟨⟨va, vb, vc, vl, told, ok⟩, hp, H⟩ := H
     have PO := Aside0.mk hp
     clear hp
     cases ok with
     | false =>
      replace H : some (([] : List (S57)), false) = some (r1, r2) := H
      simp only [Option.some.injEq, Prod.mk.injEq] at H
      obtain ⟨rfl, rfl⟩ := H
      go_wp2_with (first
       | (go_at_call 50; (with_reducible refine (strings_CutPrefix.calls a0 g rest true _ CP.out).mono ?_); rintro e w2 ⟨rfl, hd⟩; replace HB := zA (below_step (zW HB.out) (impl_cmpsOf.drawn hd)); clear hd)
       | (go_at_call 51; (with_reducible refine (impl_partOf.calls k rest va vb vc vl told false _ ?hgw PO.out).mono ?_); (case hgw => exact GW.below HG.out (zW HB.out)); rintro e w3 ⟨v3, rfl, ho, hb⟩; have n0_ := zA (below_step (zW HB.out) hb); have HP := zA (Kd.R_lower ho (below_size (zW HB.out))); clear HB; have HB := n0_; clear n0_ hb ho; obtain ⟨Ao, co, eo⟩ := Kd.R_slice HP.out; subst eo)
       | ((with_reducible refine zd 8 ?_); refine ze 8 26 #[.int .i64 0, .int .i64 0, .int .i64 0, .slice none 0 0] ?_; intro gv hg w4 hbox hb; have n0_ := zA (below_step (zW HB.out) hb); have n2_ := zA (Kd.R_types (Kd.R_below (zR HP.out) hb) hbox (by decide)); have BV := Aside0.mk hbox; have GV := zA ((by rw [hg]; exact below_size (zW HB.out)) : w.heap.size ≤ gv); clear HB HP; have HB := n0_; have HP := n2_; clear n0_ n2_ hb hbox hg; have hnv := trivial; have vc0 : w4.cell? ⟨gv, 0, none⟩ = some (Value.int .i64 0) := (blk_cell BV.out 0).trans rfl; have vf0 := blk_frozen BV.out 0; have vc1 : w4.cell? ⟨gv, 1, none⟩ = some (Value.int .i64 0) := (blk_cell BV.out 1).trans rfl; have vf1 := blk_frozen BV.out 1; have vc2 : w4.cell? ⟨gv, 2, none⟩ = some (Value.int .i64 0) := (blk_cell BV.out 2).trans rfl; have vf2 := blk_frozen BV.out 2; have vc3 : w4.cell? ⟨gv, 3, none⟩ = some (Value.slice none 0 0) := (blk_cell BV.out 3).trans rfl; have vf3 := blk_frozen BV.out 3))
      go_ret2
      exact ⟨_, rfl, Kd.N_nil _ _ _ _ _, zW HB.out⟩
     | true =>
      replace H : ((impl_wordCmps.f k g va vb vc vl told).bind fun l => some (l, true)) = some (r1, r2) := H
      replace H := Option.bind_eq_some_iff.mp H
      obtain ⟨l, hl, H⟩ := H
      simp only [Option.some.injEq, Prod.mk.injEq] at H
      obtain ⟨rfl, rfl⟩ := H
      have WC := Aside0.mk hl
      clear hl
      go_wp2_with (first
       | (go_at_call 50; (with_reducible refine (strings_CutPrefix.calls a0 g rest true _ CP.out).mono ?_); rintro e w2 ⟨rfl, hd⟩; replace HB := zA (below_step (zW HB.out) (impl_cmpsOf.drawn hd)); clear hd)
       | (go_at_call 51; (with_reducible refine (impl_partOf.calls k rest va vb vc vl told true _ ?hgw PO.out).mono ?_); (case hgw => exact GW.below HG.out (zW HB.out)); rintro e w3 ⟨v3, rfl, ho, hb⟩; have n0_ := zA (below_step (zW HB.out) hb); have HP := zA (Kd.R_lower ho (below_size (zW HB.out))); clear HB; have HB := n0_; clear n0_ hb ho; obtain ⟨Ao, co, eo⟩ := Kd.R_slice HP.out; subst eo)
       | ((with_reducible refine zd 8 ?_); refine ze 8 26 #[.int .i64 0, .int .i64 0, .int .i64 0, .slice none 0 0] ?_; intro gv hg w4 hbox hb; have n0_ := zA (below_step (zW HB.out) hb); have n2_ := zA (Kd.R_types (Kd.R_below (zR HP.out) hb) hbox (by decide)); have BV := Aside0.mk hbox; have GV := zA ((by rw [hg]; exact below_size (zW HB.out)) : w.heap.size ≤ gv); clear HB HP; have HB := n0_; have HP := n2_; clear n0_ n2_ hb hbox hg; have hnv := trivial; have vc0 : w4.cell? ⟨gv, 0, none⟩ = some (Value.int .i64 0) := (blk_cell BV.out 0).trans rfl; have vf0 := blk_frozen BV.out 0; have vc1 : w4.cell? ⟨gv, 1, none⟩ = some (Value.int .i64 0) := (blk_cell BV.out 1).trans rfl; have vf1 := blk_frozen BV.out 1; have vc2 : w4.cell? ⟨gv, 2, none⟩ = some (Value.int .i64 0) := (blk_cell BV.out 2).trans rfl; have vf2 := blk_frozen BV.out 2; have vc3 : w4.cell? ⟨gv, 3, none⟩ = some (Value.slice none 0 0) := (blk_cell BV.out 3).trans rfl; have vf3 := blk_frozen BV.out 3))
      (with_reducible refine (impl_wordCmps.calls k g va vb vc (fun k_ => w.heap.size ≤ k_) Ao co vl told l _ ?side1 WC.out).mono ?_)
      (case side1 => exact Kd.R_V (Kd.R_mono (Kd.R_bound (ok := fun k_ => True ∧ k_ ≠ gv) (by (with_reducible repeat (first | apply Kd.R_alloc | apply Kd.R_drewN | apply Kd.R_drew | refine Kd.R_far ?_ (fun _ hk => hk.2) _)); exact HP.out)) (fun k_ hk => hk.2.1)))
      rintro e w6 ⟨v6, rfl, ho, hb⟩
      have HN := zA (Kd.N_mono (ok' := fun k_ => (w.heap.size ≤ k_)) (Kd.N_lower ho (below_size (zW HB.out))) (fun k_ hk => hk.elim id (fun h_ => Nat.le_trans (below_size (zW HB.out)) h_)))
      replace HB := zh HB hb
      clear ho hb
      go_wp2
      go_ret2
      exact ⟨_, rfl, by (with_reducible repeat (first | apply Kd.N_alloc | apply Kd.N_drewN | apply Kd.N_drew)); exact HN.out, zW HB.out⟩
   ·obtain rfl : m = 8 := by omega
    replace H : some (([] : List (S57)), false) = some (r1, r2) := H
    simp only [Option.some.injEq, Prod.mk.injEq] at H
    obtain ⟨rfl, rfl⟩ := H
    have hlt : ¬ (((8 : Nat) : Int) < 8) := by omega
    go_wp2
    go_ret2
    exact ⟨_, rfl, Kd.N_nil _ _ _ _ _, zW HB.out⟩
/-! ### impl_listOf: function 13 -/
mutual
def impl_listOf.j0 : Nat → List ByteArray → Bool → Option ((List (S57)) × Bool)
 | 0, _, _ => none
 | k + 1, x4, x27 => if x27 = true then (if 0 < (x4.length : Int) then ((impl_ParseVer.f k (rdOf ByteArray.empty x4 0)).bind fun bt308 => (if 2 < (x4.length : Int) then ((impl_ParseVer.f k (rdOf ByteArray.empty x4 2)).bind fun bt317 => ((some (([(⟨4, (⟨bt308.1, bt308.2.1, bt308.2.2.1, bt308.2.2.2.1⟩ : S26)⟩ : S57), (⟨2, (⟨bt317.1, bt317.2.1, bt317.2.2.1, bt317.2.2.2.1⟩ : S26)⟩ : S57)] : List (S57)) : List (S57))).bind fun y325 => (if bt308.2.2.2.2 = true then (some (y325, bt317.2.2.2.2)) else (some (y325, false))))) else (none))) else (none)) else (impl_listOf.j1 k x4)
def impl_listOf.j1 : Nat → List ByteArray → Option ((List (S57)) × Bool)
 | 0, _ => none
 | k + 1, x4 => impl_listOf.l0 k ([] : List (S57)) x4 (x4.length : Int) 0
def impl_listOf.l0 : Nat → List (S57) → List ByteArray → Int → Int → Option ((List (S57)) × Bool)
 | 0, _, _, _, _ => none
 | k + 1, x9, x51, x52, x53 => if x53 < x52 then (if 0 ≤ x53 then (if x53 < (x51.length : Int) then ((impl_cmpsOf.f k (rdOf ByteArray.empty x51 x53)).bind fun bt329 => (if bt329.2 = true then (if x9.length + bt329.1.length < 2513169434916 then (impl_listOf.l0 k (x9 ++ bt329.1) x51 x52 (wrap64 (x53 + 1))) else (none)) else (some (([] : List (S57)), false)))) else (none)) else (none)) else (impl_listOf.l1 k x9 x9 (x9.length : Int) 0)
def impl_listOf.l1 : Nat → List (S57) → List (S57) → Int → Int → Option ((List (S57)) × Bool)
 | 0, _, _, _, _ => none
 | k + 1, x9, x68, x69, x70 => if x70 < x69 then (if 0 ≤ x70 then (if x70 < (x68.length : Int) then ((impl_VerOk.f k ((rd_T57 x68 x70).f1.f0) ((rd_T57 x68 x70).f1.f1) ((rd_T57 x68 x70).f1.f2) ((rd_T57 x68 x70).f1.f3)).bind fun t338 => (if t338 = true then (impl_listOf.l1 k x9 x68 x69 (wrap64 (x70 + 1))) else (some (([] : List (S57)), false)))) else (none)) else (none)) else (some (x9, decide ((x9.length : Int) ≤ 4)))
end
def impl_listOf.f (k : Nat) (a0 : ByteArray) : Option ((List (S57)) × Bool) := (strings_Trim.f a0 (⟨#[32]⟩ : ByteArray)).bind fun t302 => ((strings_Split.f t302 (⟨#[32]⟩ : ByteArray)).bind fun t303 => (if (t303.length : Int) = 3 then (if 1 < (t303.length : Int) then (impl_listOf.j0 k t303 ((rdOf ByteArray.empty t303 1).toList == ([45] : List UInt8))) else (none)) else (impl_listOf.j0 k t303 false)))
theorem impl_listOf.calls (k : Nat) (a0 : ByteArray) (r1 : List (S57)) (r2 : Bool) (w : World) (hG : GW w) (h : impl_listOf.f k a0 = some (r1, r2)) :
  Calls Tryd.prog 13 #[.string a0] w fun e w' => ∃ v0_ : Value, e = .returned (.tuple #[v0_, .bool r2]) ∧ Kd.N k57 57 w' w.heap.size (fun k_ => (w.heap.size ≤ k_)) v0_ r1 ∧ Below w.heap.size w w' := by
 have hu26 := Tryd.underlying26
 have hu57 := Tryd.underlying57
 have HG := Aside0.mk hG
 clear hG
 have HB := zA (Below.refl w.heap.size w)
 have H : ((strings_Trim.f a0 (⟨#[32]⟩ : ByteArray)).bind fun t302 => ((strings_Split.f t302 (⟨#[32]⟩ : ByteArray)).bind fun t303 => (if (t303.length : Int) = 3 then (if 1 < (t303.length : Int) then (impl_listOf.j0 k t303 ((rdOf ByteArray.empty t303 1).toList == ([45] : List UInt8))) else (none)) else (impl_listOf.j0 k t303 false)))) = some (r1, r2) := h
 clear h
 replace H := Option.bind_eq_some_iff.mp H
 obtain ⟨t302, A20, H⟩ := H
 try dsimp only at H
 have A2 := Aside0.mk A20
 clear A20
 replace H := Option.bind_eq_some_iff.mp H
 obtain ⟨t303, A30, H⟩ := H
 try dsimp only at H
 have A3 := Aside0.mk A30
 clear A30
 have HC4 := Aside0.mk H
 clear H
 go_enter Tryd.func13, Tryd.ntmps13
 go_upto_region 2 with (first | ((with_reducible refine zq 23 ?_); refine zg (some 17) Tryd.func23 #[.string a0, .string (⟨#[32]⟩ : ByteArray)] ?_; (with_reducible refine (strings_Trim.calls a0 (⟨#[32]⟩ : ByteArray) t302 _ A2.out).mono ?_); rintro e w' ⟨rfl, ⟨nd, rfl⟩⟩; refine ⟨_, rfl, ?_⟩) | ((with_reducible refine zq 12 ?_); refine zg (some 18) Tryd.func12 #[.string t302, .string (⟨#[32]⟩ : ByteArray)] ?_; (with_reducible refine (strings_Split.calls t302 (⟨#[32]⟩ : ByteArray) t303 _ ?side1 A3.out).mono ?_); (case side1 => exact GW.below HG.out (zB)); rintro e w5 ⟨v304, rfl, ho0, hb⟩; refine ⟨_, rfl, ?_⟩; have HO305 := zA (Kd.R_lower (Kd.R_newM (M := fun k_ => (w.heap.size ≤ k_)) ho0 (below_size (zB)) (fun k_ h_ => h_)) (below_size (zB))); replace HB := zA (below_step (zB) hb); (try clear hb ho0)))
 (try simp only [Act.put, zT])
 go_cut [27] (fun v27 wc => ∃ (kq : Nat) (x27_3 : Bool), v27 = .bool x27_3 ∧ Aside0 (impl_listOf.j0 kq t303 x27_3 = some (r1, r2)) ∧ Aside0 (kq ≤ k) ∧ Aside0 (Kd.R Kd.string 9 wc w.heap.size (fun k_ => (w.heap.size ≤ k_)) v304 t303) ∧ Aside0 (Below w.heap.size w wc))
 case first =>
  have H := HC4.out
  clear HC4
  by_cases c6 : (t303.length : Int) = 3
  ·rw [if_pos c6] at H
   have c6b0 : ((t303.length : Int) == 3) = true := beq_iff_eq.mpr c6
   have c6b1 : ((t303.length : Int) != 3) = false := bne_eq_false_iff_eq.mpr c6
   clear c6
   (first | rw [c6b0] | (simp only [i64_w, i32_w]; rw [c6b0]) | skip)
   by_cases c7 : 1 < (t303.length : Int)
   ·rw [if_pos c7] at H
    have c7b0 := decide_eq_true c7
    have c7b1 : decide (1 < t303.length) = true := decide_eq_true (by omega)
    clear c7
    have H' := Aside0.mk H
    clear H
    obtain ⟨Ao8, co8, eo8⟩ := Kd.R_slice HO305.out
    subst eo8
    have p306 : 0 ≤ (1 : Int) := (by omega)
    have q306 : 1 < (t303.length : Int) := zD
    obtain ⟨ad306, e306, hx306_0⟩ := Kd.at_string (Kd.R_reads' HO305.out).2.2 1 p306 q306
    cases e306
    (try simp only [show (1 : Int).toNat = 1 from rfl, Nat.reduceMul, Nat.reduceEqDiff, Go.Addr.add, ↓reduceIte] at hx306_0)
    have qi306 : (1 < t303.length) = True := eq_true (by omega)
    (try rw [show ((1 : Int)).toNat = 1 from rfl] at hx306_0)
    replace p306 := eq_true p306
    replace q306 := eq_true q306
    go_wp2
    go_meet
    case rel => exact ⟨_, (((rdOf ByteArray.empty t303 1).toList == ([45] : List UInt8))), zS, (by first | exact H' | (subst_vars; exact H')), ⟨by first | omega | exact Nat.le_refl _⟩, ⟨by (with_reducible repeat (first | apply Kd.R_alloc | apply Kd.R_drewN | apply Kd.R_drew)); exact Kd.R_mono HO305.out (fun _ hk => hk.1)⟩, ⟨zB⟩⟩
   ·rw [if_neg c7] at H
    exact absurd H (by simp)
  ·rw [if_neg c6] at H
   have c6b0 : ((t303.length : Int) == 3) = false := beq_eq_false_iff_ne.mpr c6
   have c6b1 : ((t303.length : Int) != 3) = true := bne_iff_ne.mpr c6
   (first | rw [c6b0] | (simp only [i64_w, i32_w]; rw [c6b0]) | skip)
   have H' := Aside0.mk H
   clear H
   obtain ⟨Ao9, co9, eo9⟩ := Kd.R_slice HO305.out
   subst eo9
   go_wp2
   go_meet
   case rel => exact ⟨_, (false), zS, (by first | exact H' | (subst_vars; exact H')), ⟨by first | omega | exact Nat.le_refl _⟩, ⟨by (with_reducible repeat (first | apply Kd.R_alloc | apply Kd.R_drewN | apply Kd.R_drew)); exact Kd.R_mono HO305.out (fun _ hk => hk.1)⟩, ⟨zB⟩⟩
 case rest =>
  clear HC4
  try clear c1
  try clear c2
  try clear p2
  try clear p3
  try clear q3
  try clear hx3
  try clear qi3
  try clear c6
  try clear c6b0
  try clear c6b1
  try clear c7
  try clear c7b0
  try clear c7b1
  try clear hx306_0
  try clear p306
  try clear q306
  obtain ⟨kq, x27_3, rfl, HA, HJ3, HO_4, HB⟩ := hcut
  cases kq with
  | zero => exact absurd HA.out (by simp [impl_listOf.j0])
  | succ kj3 =>
   have H := HA.out
   clear HA
   simp only [impl_listOf.j0] at H
   have HC10 := Aside0.mk H
   clear H
   go_upto_if 27 with (fail)
   go_cut [] (fun wc => ∃ (kq : Nat), Aside0 (impl_listOf.j1 kq t303 = some (r1, r2)) ∧ Aside0 (kq ≤ kj3) ∧ Aside0 (Kd.R Kd.string 9 wc w.heap.size (fun k_ => (w.heap.size ≤ k_)) v304 t303) ∧ Aside0 (Below w.heap.size w wc))
   case first =>
    have H := HC10.out
    clear HC10
    by_cases c11 : x27_3 = true
    ·subst c11
     rw [if_pos rfl] at H
     by_cases c12 : 0 < (t303.length : Int)
     ·rw [if_pos c12] at H
      have c12b0 := decide_eq_true c12
      have c12b1 : decide (0 < t303.length) = true := decide_eq_true (by omega)
      clear c12
      (first | rw [c12b0] | (simp only [i64_w, i32_w]; rw [c12b0]) | skip)
      replace H := Option.bind_eq_some_iff.mp H
      obtain ⟨⟨t308, t309, t310, t311, t314⟩, A130, H⟩ := H
      try dsimp only at H
      have A13 := Aside0.mk A130
      clear A130
      by_cases c14 : 2 < (t303.length : Int)
      ·rw [if_pos c14] at H
       have c14b0 := decide_eq_true c14
       have c14b1 : decide (2 < t303.length) = true := decide_eq_true (by omega)
       clear c14
       replace H := Option.bind_eq_some_iff.mp H
       obtain ⟨⟨t317, t318, t319, t320, t323⟩, A150, H⟩ := H
       try dsimp only at H
       have A15 := Aside0.mk A150
       clear A150
       obtain ⟨y325, hy325⟩ : ∃ y_ : List (S57), y_ = (([(⟨4, (⟨t308, t309, t310, t311⟩ : S26)⟩ : S57), (⟨2, (⟨t317, t318, t319, t320⟩ : S26)⟩ : S57)] : List (S57))) := ⟨_, rfl⟩
       replace H : (if t314 = true then (some (y325, t323)) else (some (y325, false))) = some (r1, r2) := by first | (rw [hy325]; with_reducible exact H) | (have H2_ := (Option.bind_some _ _).symm.trans H; rw [hy325]; with_reducible exact H2_) | (have H2_ := (Option.bind_some _ _).symm.trans H; with_reducible exact H2_) | with_reducible exact H | (rw [hy325]; exact H) | exact H
       have Ny325 := Aside0.mk hy325
       clear hy325
       by_cases c16 : t314 = true
       ·subst c16
        rw [if_pos rfl] at H
        simp only [Option.some.injEq, Prod.mk.injEq] at H
        obtain ⟨rfl, rfl⟩ := H
        obtain ⟨Ao17, co17, eo17⟩ := Kd.R_slice HO_4.out
        subst eo17
        have p307 : 0 ≤ (0 : Int) := (by omega)
        have q307 : 0 < (t303.length : Int) := zD
        obtain ⟨ad307, e307, hx307_0⟩ := Kd.at_string (Kd.R_reads' HO_4.out).2.2 0 p307 q307
        cases e307
        have qi307 : (0 < t303.length) = True := eq_true (by omega)
        (try rw [show ((0 : Int)).toNat = 0 from rfl] at hx307_0)
        (try rw [Addr.add_zero'] at hx307_0)
        replace p307 := eq_true p307
        replace q307 := eq_true q307
        go_wp2_with (first | ((with_reducible refine zq 24 ?_); refine zg (some 32) Tryd.func24 #[.string (rdOf ByteArray.empty t303 0)] ?_; (with_reducible refine (impl_ParseVer.calls kj3 (rdOf ByteArray.empty t303 0) t308 t309 t310 t311 true _ ?side1 A13.out).mono ?_); (case side1 => exact GW.below HG.out (zB)); rintro e w18 ⟨v312, rfl, ho0, hb⟩; refine ⟨_, rfl, ?_⟩; have HO313 := zA (Kd.R_lower (Kd.R_new' (Kd.R_newM (M := fun k_ => (w.heap.size ≤ k_)) ho0 (below_size (zB)) (fun k_ h_ => h_)) (Kd.R_lt (zR HO_4.out))) (below_size (zB))); replace HO_4 := zA (Kd.R_elder' (zR HO_4.out) (Kd.R_base ho0) hb); replace HB := zA (below_step (zB) hb); (try clear hb ho0)) | ((with_reducible refine zd 5 ?_); refine ze 5 26 #[.int .i64 0, .int .i64 0, .int .i64 0, .slice none 0 0] ?_; intro gb315 hg w19 hbox hb; replace HO_4 := zr HO_4 hb; replace HO313 := zr HO313 hb; have BK315 := zA (hbox); have GW315 := zi HB hg; have GE315 := zi HB hg; replace HB := zA (below_step (zB) hb); clear hb hbox hg; obtain ⟨hcz20_0, hcz20_1, hcz20_2, hcz20_3, hfz20_0, hfz20_1, hfz20_2, hfz20_3⟩ := ze4 BK315.out; obtain ⟨Ao21, co21, eo21⟩ := Kd.R_slice HO313.out; subst eo21; have p316 : 0 ≤ (2 : Int) := (by omega); have q316 : 2 < (t303.length : Int) := zD; obtain ⟨ad316, e316, hx316_0⟩ := Kd.at_string (Kd.R_reads' HO_4.out).2.2 2 p316 q316; obtain rfl : ad307 = ad316 := (by injection e316); (try simp only [show (2 : Int).toNat = 2 from rfl, Nat.reduceMul, Nat.reduceEqDiff, Go.Addr.add, ↓reduceIte] at hx316_0); have qi316 : (2 < t303.length) = True := eq_true (by omega); (try rw [show ((2 : Int)).toNat = 2 from rfl] at hx316_0); have hn316_0 : ad307.block ≠ gb315 := Kd.own_blk (Kd.R_ne HO_4.out BK315.out (by decide)); have hn316_1 : ad307.block ≠ gb315 := Kd.own_blk (Kd.R_ne HO_4.out BK315.out (by decide)); have hn316_2 : ad307.block ≠ gb315 := Kd.own_blk (Kd.R_ne HO_4.out BK315.out (by decide)); have hn316_3 : ad307.block ≠ gb315 := Kd.own_blk (Kd.R_ne HO_4.out BK315.out (by decide)); replace hx316_0 := (cell_far (p := ⟨gb315, 0, none⟩) (by first | (rw [add_block]; exact hn316_0) | (show (Addr.add _ _).block ≠ _; rw [add_block]; exact hn316_0) | exact hn316_0) (.int .i64 t308)).trans hx316_0; replace hx316_0 := (cell_far (p := ⟨gb315, 1, none⟩) (by first | (rw [add_block]; exact hn316_1) | (show (Addr.add _ _).block ≠ _; rw [add_block]; exact hn316_1) | exact hn316_1) (.int .i64 t309)).trans hx316_0; replace hx316_0 := (cell_far (p := ⟨gb315, 2, none⟩) (by first | (rw [add_block]; exact hn316_2) | (show (Addr.add _ _).block ≠ _; rw [add_block]; exact hn316_2) | exact hn316_2) (.int .i64 t310)).trans hx316_0; replace hx316_0 := (cell_far (p := ⟨gb315, 3, none⟩) (by first | (rw [add_block]; exact hn316_3) | (show (Addr.add _ _).block ≠ _; rw [add_block]; exact hn316_3) | exact hn316_3) (.slice Ao21 t311.length co21)).trans hx316_0; clear hn316_0; clear hn316_1; clear hn316_2; clear hn316_3; replace p316 := eq_true p316; replace q316 := eq_true q316) | ((with_reducible refine zq 24 ?_); refine zg (some 39) Tryd.func24 #[.string (rdOf ByteArray.empty t303 2)] ?_; (with_reducible refine (impl_ParseVer.calls kj3 (rdOf ByteArray.empty t303 2) t317 t318 t319 t320 t323 _ ?side1 A15.out).mono ?_); (case side1 => exact GW.below HG.out (zW HB.out)); rintro e w22 ⟨v321, rfl, ho0, hb⟩; refine ⟨_, rfl, ?_⟩; have HO322 := zA (Kd.R_lower (Kd.R_new' (Kd.R_new' (Kd.R_newM (M := fun k_ => (w.heap.size ≤ k_)) ho0 (below_size (zW HB.out)) (fun k_ h_ => h_)) (Kd.R_lt (zR (Kd.R_mono (Kd.R_far (p := ⟨gb315, 3, none⟩) (Kd.R_far (p := ⟨gb315, 2, none⟩) (Kd.R_far (p := ⟨gb315, 1, none⟩) (Kd.R_far (p := ⟨gb315, 0, none⟩) (Kd.R_types HO_4.out BK315.out (by decide)) (fun _ hk => hk.2) (.int .i64 t308)) (fun _ hk => hk.2) (.int .i64 t309)) (fun _ hk => hk.2) (.int .i64 t310)) (fun _ hk => hk.2) (.slice Ao21 t311.length co21)) (fun _ h_ => h_.1))))) (Kd.R_lt (zR (Kd.R_mono (Kd.R_far (p := ⟨gb315, 3, none⟩) (Kd.R_far (p := ⟨gb315, 2, none⟩) (Kd.R_far (p := ⟨gb315, 1, none⟩) (Kd.R_far (p := ⟨gb315, 0, none⟩) (Kd.R_types HO313.out BK315.out (by decide)) (fun _ hk => hk.2) (.int .i64 t308)) (fun _ hk => hk.2) (.int .i64 t309)) (fun _ hk => hk.2) (.int .i64 t310)) (fun _ hk => hk.2) (.slice Ao21 t311.length co21)) (fun _ h_ => h_.1))))) (below_size (zW HB.out))); replace HO_4 := zA (Kd.R_elder' (zR (Kd.R_mono (Kd.R_far (p := ⟨gb315, 3, none⟩) (Kd.R_far (p := ⟨gb315, 2, none⟩) (Kd.R_far (p := ⟨gb315, 1, none⟩) (Kd.R_far (p := ⟨gb315, 0, none⟩) (Kd.R_types HO_4.out BK315.out (by decide)) (fun _ hk => hk.2) (.int .i64 t308)) (fun _ hk => hk.2) (.int .i64 t309)) (fun _ hk => hk.2) (.int .i64 t310)) (fun _ hk => hk.2) (.slice Ao21 t311.length co21)) (fun _ h_ => h_.1))) (Kd.R_base ho0) hb); replace HO313 := zA (Kd.R_elder' (zR (Kd.R_mono (Kd.R_far (p := ⟨gb315, 3, none⟩) (Kd.R_far (p := ⟨gb315, 2, none⟩) (Kd.R_far (p := ⟨gb315, 1, none⟩) (Kd.R_far (p := ⟨gb315, 0, none⟩) (Kd.R_types HO313.out BK315.out (by decide)) (fun _ hk => hk.2) (.int .i64 t308)) (fun _ hk => hk.2) (.int .i64 t309)) (fun _ hk => hk.2) (.int .i64 t310)) (fun _ hk => hk.2) (.slice Ao21 t311.length co21)) (fun _ h_ => h_.1))) (Kd.R_base ho0) hb); replace BK315 := zA (blk_below (g := gb315) (o := .cells #[.int .i64 t308, .int .i64 t309, .int .i64 t310, .slice Ao21 t311.length co21] 26 (0, 0)) (by (with_reducible repeat (first | refine blk_drewN ?_ _ | refine blk_drew ?_ | refine blk_alloc ?_ _)); refine blk_put (cs := #[.int .i64 t308, .int .i64 t309, .int .i64 t310, .slice none 0 0]) ?_ 3 _ rfl; (with_reducible repeat (first | refine blk_drewN ?_ _ | refine blk_drew ?_ | refine blk_alloc ?_ _)); refine blk_put (cs := #[.int .i64 t308, .int .i64 t309, .int .i64 0, .slice none 0 0]) ?_ 2 _ rfl; (with_reducible repeat (first | refine blk_drewN ?_ _ | refine blk_drew ?_ | refine blk_alloc ?_ _)); refine blk_put (cs := #[.int .i64 t308, .int .i64 0, .int .i64 0, .slice none 0 0]) ?_ 1 _ rfl; (with_reducible repeat (first | refine blk_drewN ?_ _ | refine blk_drew ?_ | refine blk_alloc ?_ _)); refine blk_put (cs := #[.int .i64 0, .int .i64 0, .int .i64 0, .slice none 0 0]) ?_ 0 _ rfl; (with_reducible repeat (first | refine blk_drewN ?_ _ | refine blk_drew ?_ | refine blk_alloc ?_ _)); exact BK315.out) hb); replace HB := zh HB hb; (try clear hb ho0)) | ((with_reducible refine zd 7 ?_); refine ze 7 26 #[.int .i64 0, .int .i64 0, .int .i64 0, .slice none 0 0] ?_; intro gb324 hg w23 hbox hb; replace HO_4 := zr HO_4 hb; replace HO313 := zr HO313 hb; replace HO322 := zr HO322 hb; have BK324 := zA (hbox); have GW324 := zi HB hg; have GE324 := zi HB hg; replace HB := zh HB hb; have NB315_324 := zA (zL hg (zK BK315.out)); have NB324_315 := zA (zJ hg (zK BK315.out)); replace BK315 := zb BK315 hb; clear hb hbox hg; have hnb24 := NB324_315.out; have hnc24 := NB315_324.out; obtain ⟨hcz25_0, hcz25_1, hcz25_2, hcz25_3, hfz25_0, hfz25_1, hfz25_2, hfz25_3⟩ := ze4 BK324.out; obtain ⟨Ao26, co26, eo26⟩ := Kd.R_slice HO322.out; subst eo26) | ((with_reducible refine gate_store (t := 26) (p := 7) rfl ?_); refine store_event (t := 26) (p := 7) (v := ?vo_w27) (w1 := ((((w23.setCell ⟨gb324, 0, none⟩ (.int .i64 t317)).setCell ⟨gb324, 1, none⟩ (.int .i64 t318)).setCell ⟨gb324, 2, none⟩ (.int .i64 t319)).setCell ⟨gb324, 3, none⟩ (.slice Ao26 t320.length co26))) ?hg ?ho ?hn ?hr ?_; (case ho => rfl); (case hg => rfl); (case hn => rfl); (case hr => first | (go_simp; done) | (go_simp; rfl)); intro w27 hw; have n0_ : Aside0 (Kd.R Kd.string 9 w27 w.heap.size (fun k_ => (w.heap.size ≤ k_) ∧ some k_ ≠ (.slice Ao21 t311.length co21 : Value).ownBlock ∧ some k_ ≠ (.slice Ao26 t320.length co26 : Value).ownBlock) (.slice (some ad307) t303.length co17) t303) := ⟨(by rw [hw]; exact (by (with_reducible repeat (first | apply Kd.R_alloc | apply Kd.R_drewN | apply Kd.R_drew)); exact Kd.R_mono (Kd.R_far (p := ⟨gb324, 3, none⟩) (Kd.R_far (p := ⟨gb324, 2, none⟩) (Kd.R_far (p := ⟨gb324, 1, none⟩) (Kd.R_far (p := ⟨gb324, 0, none⟩) (Kd.R_types HO_4.out BK324.out (by decide)) (fun _ hk => hk.2) (.int .i64 t317)) (fun _ hk => hk.2) (.int .i64 t318)) (fun _ hk => hk.2) (.int .i64 t319)) (fun _ hk => hk.2) (.slice Ao26 t320.length co26)) (fun _ hk => ⟨hk.1.1.1, ⟨hk.1.1.2, hk.1.2⟩⟩)))⟩; have n1_ : Aside0 (Kd.R Kd.string 9 w27 w.heap.size (fun k_ => (w.heap.size ≤ k_) ∧ some k_ ≠ (.slice (some ad307) t303.length co17 : Value).ownBlock ∧ some k_ ≠ (.slice Ao26 t320.length co26 : Value).ownBlock) (.slice Ao21 t311.length co21) t311) := ⟨(by rw [hw]; exact (by (with_reducible repeat (first | apply Kd.R_alloc | apply Kd.R_drewN | apply Kd.R_drew)); exact Kd.R_mono (Kd.R_far (p := ⟨gb324, 3, none⟩) (Kd.R_far (p := ⟨gb324, 2, none⟩) (Kd.R_far (p := ⟨gb324, 1, none⟩) (Kd.R_far (p := ⟨gb324, 0, none⟩) (Kd.R_types HO313.out BK324.out (by decide)) (fun _ hk => hk.2) (.int .i64 t317)) (fun _ hk => hk.2) (.int .i64 t318)) (fun _ hk => hk.2) (.int .i64 t319)) (fun _ hk => hk.2) (.slice Ao26 t320.length co26)) (fun _ hk => ⟨hk.1.1.1.1, ⟨hk.1.1.2, hk.1.2⟩⟩)))⟩; have n2_ : Aside0 (Kd.R Kd.string 9 w27 w.heap.size (fun k_ => (w.heap.size ≤ k_) ∧ some k_ ≠ (.slice (some ad307) t303.length co17 : Value).ownBlock ∧ some k_ ≠ (.slice Ao21 t311.length co21 : Value).ownBlock) (.slice Ao26 t320.length co26) t320) := ⟨(by rw [hw]; exact (by (with_reducible repeat (first | apply Kd.R_alloc | apply Kd.R_drewN | apply Kd.R_drew)); exact Kd.R_mono (Kd.R_far (p := ⟨gb324, 3, none⟩) (Kd.R_far (p := ⟨gb324, 2, none⟩) (Kd.R_far (p := ⟨gb324, 1, none⟩) (Kd.R_far (p := ⟨gb324, 0, none⟩) (Kd.R_types HO322.out BK324.out (by decide)) (fun _ hk => hk.2) (.int .i64 t317)) (fun _ hk => hk.2) (.int .i64 t318)) (fun _ hk => hk.2) (.int .i64 t319)) (fun _ hk => hk.2) (.slice Ao26 t320.length co26)) (fun _ hk => ⟨hk.1.1.1.1, ⟨hk.1.1.2, hk.1.2⟩⟩)))⟩; have n3_ : Aside0 (w27.heap[gb315]? = some (.cells #[.int .i64 t308, .int .i64 t309, .int .i64 t310, .slice Ao21 t311.length co21] 26 (0, 0))) := ⟨(by rw [hw]; exact (zK BK315.out))⟩; have n4_ : Aside0 (w27.heap[gb324]? = some (.cells #[.int .i64 t317, .int .i64 t318, .int .i64 t319, .slice Ao26 t320.length co26] 26 (0, 0))) := ⟨(by rw [hw]; exact (by (with_reducible repeat (first | refine blk_drewN ?_ _ | refine blk_drew ?_ | refine blk_alloc ?_ _)); refine blk_put (cs := #[.int .i64 t317, .int .i64 t318, .int .i64 t319, .slice none 0 0]) ?_ 3 _ rfl; (with_reducible repeat (first | refine blk_drewN ?_ _ | refine blk_drew ?_ | refine blk_alloc ?_ _)); refine blk_put (cs := #[.int .i64 t317, .int .i64 t318, .int .i64 0, .slice none 0 0]) ?_ 2 _ rfl; (with_reducible repeat (first | refine blk_drewN ?_ _ | refine blk_drew ?_ | refine blk_alloc ?_ _)); refine blk_put (cs := #[.int .i64 t317, .int .i64 0, .int .i64 0, .slice none 0 0]) ?_ 1 _ rfl; (with_reducible repeat (first | refine blk_drewN ?_ _ | refine blk_drew ?_ | refine blk_alloc ?_ _)); refine blk_put (cs := #[.int .i64 0, .int .i64 0, .int .i64 0, .slice none 0 0]) ?_ 0 _ rfl; (with_reducible repeat (first | refine blk_drewN ?_ _ | refine blk_drew ?_ | refine blk_alloc ?_ _)); exact BK324.out))⟩; have n5_ : Aside0 (Below w.heap.size w w27) := ⟨(by rw [hw]; exact (zW HB.out))⟩; clear hw; clear HO_4; clear HO313; clear HO322; clear BK315; clear BK324; clear HB; have HO_4 := n0_; have HO313 := n1_; have HO322 := n2_; have BK315 := n3_; have BK324 := n4_; have HB := n5_; clear n0_ n1_ n2_ n3_ n4_ n5_; obtain ⟨hcz28_0, hcz28_1, hcz28_2, hcz28_3, hfz28_0, hfz28_1, hfz28_2, hfz28_3⟩ := ze4 BK315.out; obtain ⟨hcz29_0, hcz29_1, hcz29_2, hcz29_3, hfz29_0, hfz29_1, hfz29_2, hfz29_3⟩ := ze4 BK324.out) | ((with_reducible refine gate_dst (N := 46) rfl ?_); refine Kd.N_lit k57 _ 57 ?hg (N' := 46) ?hd (xs := ([(⟨4, (⟨t308, t309, t310, t311⟩ : S26)⟩ : S57), (⟨2, (⟨t317, t318, t319, t320⟩ : S26)⟩ : S57)] : List (S57))) (inner := [.int .i64 4, .int .i64 t308, .int .i64 t309, .int .i64 t310, .slice Ao21 t311.length co21, .int .i64 2, .int .i64 t317, .int .i64 t318, .int .i64 t319, .slice Ao26 t320.length co26]) (ok := (fun k_ => (w.heap.size ≤ k_) ∧ some k_ ≠ (.slice (some ad307) t303.length co17 : Value).ownBlock ∧ k_ ≠ gb315 ∧ k_ ≠ gb324)) (okp := (fun k_ => (w.heap.size ≤ k_) ∧ some k_ ≠ (.slice (some ad307) t303.length co17 : Value).ownBlock ∧ k_ ≠ gb315 ∧ k_ ≠ gb324)) ?hr ?hp (fun _ hk => hk) ((show ∀ k_, w27.heap.size ≤ k_ → (fun k_ => (w.heap.size ≤ k_) ∧ some k_ ≠ (.slice (some ad307) t303.length co17 : Value).ownBlock ∧ k_ ≠ gb315 ∧ k_ ≠ gb324) k_ from fun k_ hk => ⟨(Nat.le_trans (below_size (zW HB.out)) hk), Kd.fresh' (Kd.R_lt (zR HO_4.out)) k_ hk, Kd.freshB (g := gb315) (o := .cells #[.int .i64 t308, .int .i64 t309, .int .i64 t310, .slice Ao21 t311.length co21] 26 (0, 0)) (zK BK315.out) k_ hk, Kd.freshB (g := gb324) (o := .cells #[.int .i64 t317, .int .i64 t318, .int .i64 t319, .slice Ao26 t320.length co26] 26 (0, 0)) (zK BK324.out) k_ hk⟩) _ (Nat.le_refl _)) (Below.refl _ _) (Nat.le_refl _) (by simp) ?_; (case hd => rfl); (case hg => rfl); (case hr => first | (go_simp; done) | (go_simp; rfl)); (case hp => exact (Reps.c5 (show Kd.FK k57 _ _ (⟨4, (⟨t308, t309, t310, t311⟩ : S26)⟩ : S57) [.int .i64 4, .int .i64 t308, .int .i64 t309, .int .i64 t310, .slice Ao21 t311.length co21] from (k57_mkF _ _ (⟨4, (⟨t308, t309, t310, t311⟩ : S26)⟩ : S57) (Kd.R_reads' (Kd.R_mono (ok' := (fun k_ => (w.heap.size ≤ k_) ∧ some k_ ≠ (.slice (some ad307) t303.length co17 : Value).ownBlock ∧ k_ ≠ gb315 ∧ k_ ≠ gb324)) (Kd.R_types (Kd.R_types (HO313.out) BK315.out (by decide)) BK324.out (by decide)) (fun k_ hk => ⟨hk.1.1.1, ⟨hk.1.1.2.1, ⟨hk.1.2, hk.2⟩⟩⟩))).2.1 (Kd.R_F (Kd.R_mono (ok' := (fun k_ => (w.heap.size ≤ k_) ∧ some k_ ≠ (.slice (some ad307) t303.length co17 : Value).ownBlock ∧ k_ ≠ gb315 ∧ k_ ≠ gb324)) (Kd.R_types (Kd.R_types (HO313.out) BK315.out (by decide)) BK324.out (by decide)) (fun k_ hk => ⟨hk.1.1.1, ⟨hk.1.1.2.1, ⟨hk.1.2, hk.2⟩⟩⟩))))) (Reps.c5 (show Kd.FK k57 _ _ (⟨2, (⟨t317, t318, t319, t320⟩ : S26)⟩ : S57) [.int .i64 2, .int .i64 t317, .int .i64 t318, .int .i64 t319, .slice Ao26 t320.length co26] from (k57_mkF _ _ (⟨2, (⟨t317, t318, t319, t320⟩ : S26)⟩ : S57) (Kd.R_reads' (Kd.R_mono (ok' := (fun k_ => (w.heap.size ≤ k_) ∧ some k_ ≠ (.slice (some ad307) t303.length co17 : Value).ownBlock ∧ k_ ≠ gb315 ∧ k_ ≠ gb324)) (Kd.R_types (Kd.R_types (HO322.out) BK315.out (by decide)) BK324.out (by decide)) (fun k_ hk => ⟨hk.1.1.1, ⟨hk.1.1.2.1, ⟨hk.1.2, hk.2⟩⟩⟩))).2.1 (Kd.R_F (Kd.R_mono (ok' := (fun k_ => (w.heap.size ≤ k_) ∧ some k_ ≠ (.slice (some ad307) t303.length co17 : Value).ownBlock ∧ k_ ≠ gb315 ∧ k_ ≠ gb324)) (Kd.R_types (Kd.R_types (HO322.out) BK315.out (by decide)) BK324.out (by decide)) (fun k_ hk => ⟨hk.1.1.1, ⟨hk.1.1.2.1, ⟨hk.1.2, hk.2⟩⟩⟩))))) (Reps.none _ _)))); intro v326 w30 ho31 hb hg_ hnew_; clear hg_ hnew_; (first | rw [← Ny325.out] at ho31 | (simp only [Int.reduceToNat] at ho31; rw [← Ny325.out] at ho31)); replace HO_4 := zr HO_4 hb; have HO327 := zA (Kd.N_lower ho31 (below_size (zW HB.out))); replace BK315 := zb BK315 hb; replace BK324 := zb BK324 hb; replace HB := zh HB hb; clear HO313 HO322; clear hb ho31))
        go_ret2
        exact ⟨_, zE, by (with_reducible repeat (first | apply Kd.N_alloc | apply Kd.N_drewN | apply Kd.N_drew)); exact Kd.N_mono HO327.out (fun _ hk => hk.1), zW HB.out⟩
       ·replace c16 := Bool.eq_false_iff.mpr c16
        subst c16
        rw [if_neg zFT] at H
        simp only [Option.some.injEq, Prod.mk.injEq] at H
        obtain ⟨rfl, rfl⟩ := H
        obtain ⟨Ao32, co32, eo32⟩ := Kd.R_slice HO_4.out
        subst eo32
        have p307 : 0 ≤ (0 : Int) := (by omega)
        have q307 : 0 < (t303.length : Int) := zD
        obtain ⟨ad307, e307, hx307_0⟩ := Kd.at_string (Kd.R_reads' HO_4.out).2.2 0 p307 q307
        cases e307
        have qi307 : (0 < t303.length) = True := eq_true (by omega)
        (try rw [show ((0 : Int)).toNat = 0 from rfl] at hx307_0)
        (try rw [Addr.add_zero'] at hx307_0)
        replace p307 := eq_true p307
        replace q307 := eq_true q307
        go_wp2_with (first | ((with_reducible refine zq 24 ?_); refine zg (some 32) Tryd.func24 #[.string (rdOf ByteArray.empty t303 0)] ?_; (with_reducible refine (impl_ParseVer.calls kj3 (rdOf ByteArray.empty t303 0) t308 t309 t310 t311 false _ ?side1 A13.out).mono ?_); (case side1 => exact GW.below HG.out (zB)); rintro e w33 ⟨v312, rfl, ho0, hb⟩; refine ⟨_, rfl, ?_⟩; have HO313 := zA (Kd.R_lower (Kd.R_new' (Kd.R_newM (M := fun k_ => (w.heap.size ≤ k_)) ho0 (below_size (zB)) (fun k_ h_ => h_)) (Kd.R_lt (zR HO_4.out))) (below_size (zB))); replace HO_4 := zA (Kd.R_elder' (zR HO_4.out) (Kd.R_base ho0) hb); replace HB := zA (below_step (zB) hb); (try clear hb ho0)) | ((with_reducible refine zd 5 ?_); refine ze 5 26 #[.int .i64 0, .int .i64 0, .int .i64 0, .slice none 0 0] ?_; intro gb315 hg w34 hbox hb; replace HO_4 := zr HO_4 hb; replace HO313 := zr HO313 hb; have BK315 := zA (hbox); have GW315 := zi HB hg; have GE315 := zi HB hg; replace HB := zA (below_step (zB) hb); clear hb hbox hg; obtain ⟨hcz35_0, hcz35_1, hcz35_2, hcz35_3, hfz35_0, hfz35_1, hfz35_2, hfz35_3⟩ := ze4 BK315.out; obtain ⟨Ao36, co36, eo36⟩ := Kd.R_slice HO313.out; subst eo36; have p316 : 0 ≤ (2 : Int) := (by omega); have q316 : 2 < (t303.length : Int) := zD; obtain ⟨ad316, e316, hx316_0⟩ := Kd.at_string (Kd.R_reads' HO_4.out).2.2 2 p316 q316; obtain rfl : ad307 = ad316 := (by injection e316); (try simp only [show (2 : Int).toNat = 2 from rfl, Nat.reduceMul, Nat.reduceEqDiff, Go.Addr.add, ↓reduceIte] at hx316_0); have qi316 : (2 < t303.length) = True := eq_true (by omega); (try rw [show ((2 : Int)).toNat = 2 from rfl] at hx316_0); have hn316_0 : ad307.block ≠ gb315 := Kd.own_blk (Kd.R_ne HO_4.out BK315.out (by decide)); have hn316_1 : ad307.block ≠ gb315 := Kd.own_blk (Kd.R_ne HO_4.out BK315.out (by decide)); have hn316_2 : ad307.block ≠ gb315 := Kd.own_blk (Kd.R_ne HO_4.out BK315.out (by decide)); have hn316_3 : ad307.block ≠ gb315 := Kd.own_blk (Kd.R_ne HO_4.out BK315.out (by decide)); replace hx316_0 := (cell_far (p := ⟨gb315, 0, none⟩) (by first | (rw [add_block]; exact hn316_0) | (show (Addr.add _ _).block ≠ _; rw [add_block]; exact hn316_0) | exact hn316_0) (.int .i64 t308)).trans hx316_0; replace hx316_0 := (cell_far (p := ⟨gb315, 1, none⟩) (by first | (rw [add_block]; exact hn316_1) | (show (Addr.add _ _).block ≠ _; rw [add_block]; exact hn316_1) | exact hn316_1) (.int .i64 t309)).trans hx316_0; replace hx316_0 := (cell_far (p := ⟨gb315, 2, none⟩) (by first | (rw [add_block]; exact hn316_2) | (show (Addr.add _ _).block ≠ _; rw [add_block]; exact hn316_2) | exact hn316_2) (.int .i64 t310)).trans hx316_0; replace hx316_0 := (cell_far (p := ⟨gb315, 3, none⟩) (by first | (rw [add_block]; exact hn316_3) | (show (Addr.add _ _).block ≠ _; rw [add_block]; exact hn316_3) | exact hn316_3) (.slice Ao36 t311.length co36)).trans hx316_0; clear hn316_0; clear hn316_1; clear hn316_2; clear hn316_3; replace p316 := eq_true p316; replace q316 := eq_true q316) | ((with_reducible refine zq 24 ?_); refine zg (some 39) Tryd.func24 #[.string (rdOf ByteArray.empty t303 2)] ?_; (with_reducible refine (impl_ParseVer.calls kj3 (rdOf ByteArray.empty t303 2) t317 t318 t319 t320 t323 _ ?side1 A15.out).mono ?_); (case side1 => exact GW.below HG.out (zW HB.out)); rintro e w37 ⟨v321, rfl, ho0, hb⟩; refine ⟨_, rfl, ?_⟩; have HO322 := zA (Kd.R_lower (Kd.R_new' (Kd.R_new' (Kd.R_newM (M := fun k_ => (w.heap.size ≤ k_)) ho0 (below_size (zW HB.out)) (fun k_ h_ => h_)) (Kd.R_lt (zR (Kd.R_mono (Kd.R_far (p := ⟨gb315, 3, none⟩) (Kd.R_far (p := ⟨gb315, 2, none⟩) (Kd.R_far (p := ⟨gb315, 1, none⟩) (Kd.R_far (p := ⟨gb315, 0, none⟩) (Kd.R_types HO_4.out BK315.out (by decide)) (fun _ hk => hk.2) (.int .i64 t308)) (fun _ hk => hk.2) (.int .i64 t309)) (fun _ hk => hk.2) (.int .i64 t310)) (fun _ hk => hk.2) (.slice Ao36 t311.length co36)) (fun _ h_ => h_.1))))) (Kd.R_lt (zR (Kd.R_mono (Kd.R_far (p := ⟨gb315, 3, none⟩) (Kd.R_far (p := ⟨gb315, 2, none⟩) (Kd.R_far (p := ⟨gb315, 1, none⟩) (Kd.R_far (p := ⟨gb315, 0, none⟩) (Kd.R_types HO313.out BK315.out (by decide)) (fun _ hk => hk.2) (.int .i64 t308)) (fun _ hk => hk.2) (.int .i64 t309)) (fun _ hk => hk.2) (.int .i64 t310)) (fun _ hk => hk.2) (.slice Ao36 t311.length co36)) (fun _ h_ => h_.1))))) (below_size (zW HB.out))); replace HO_4 := zA (Kd.R_elder' (zR (Kd.R_mono (Kd.R_far (p := ⟨gb315, 3, none⟩) (Kd.R_far (p := ⟨gb315, 2, none⟩) (Kd.R_far (p := ⟨gb315, 1, none⟩) (Kd.R_far (p := ⟨gb315, 0, none⟩) (Kd.R_types HO_4.out BK315.out (by decide)) (fun _ hk => hk.2) (.int .i64 t308)) (fun _ hk => hk.2) (.int .i64 t309)) (fun _ hk => hk.2) (.int .i64 t310)) (fun _ hk => hk.2) (.slice Ao36 t311.length co36)) (fun _ h_ => h_.1))) (Kd.R_base ho0) hb); replace HO313 := zA (Kd.R_elder' (zR (Kd.R_mono (Kd.R_far (p := ⟨gb315, 3, none⟩) (Kd.R_far (p := ⟨gb315, 2, none⟩) (Kd.R_far (p := ⟨gb315, 1, none⟩) (Kd.R_far (p := ⟨gb315, 0, none⟩) (Kd.R_types HO313.out BK315.out (by decide)) (fun _ hk => hk.2) (.int .i64 t308)) (fun _ hk => hk.2) (.int .i64 t309)) (fun _ hk => hk.2) (.int .i64 t310)) (fun _ hk => hk.2) (.slice Ao36 t311.length co36)) (fun _ h_ => h_.1))) (Kd.R_base ho0) hb); replace BK315 := zA (blk_below (g := gb315) (o := .cells #[.int .i64 t308, .int .i64 t309, .int .i64 t310, .slice Ao36 t311.length co36] 26 (0, 0)) (by (with_reducible repeat (first | refine blk_drewN ?_ _ | refine blk_drew ?_ | refine blk_alloc ?_ _)); refine blk_put (cs := #[.int .i64 t308, .int .i64 t309, .int .i64 t310, .slice none 0 0]) ?_ 3 _ rfl; (with_reducible repeat (first | refine blk_drewN ?_ _ | refine blk_drew ?_ | refine blk_alloc ?_ _)); refine blk_put (cs := #[.int .i64 t308, .int .i64 t309, .int .i64 0, .slice none 0 0]) ?_ 2 _ rfl; (with_reducible repeat (first | refine blk_drewN ?_ _ | refine blk_drew ?_ | refine blk_alloc ?_ _)); refine blk_put (cs := #[.int .i64 t308, .int .i64 0, .int .i64 0, .slice none 0 0]) ?_ 1 _ rfl; (with_reducible repeat (first | refine blk_drewN ?_ _ | refine blk_drew ?_ | refine blk_alloc ?_ _)); refine blk_put (cs := #[.int .i64 0, .int .i64 0, .int .i64 0, .slice none 0 0]) ?_ 0 _ rfl; (with_reducible repeat (first | refine blk_drewN ?_ _ | refine blk_drew ?_ | refine blk_alloc ?_ _)); exact BK315.out) hb); replace HB := zh HB hb; (try clear hb ho0)) | ((with_reducible refine zd 7 ?_); refine ze 7 26 #[.int .i64 0, .int .i64 0, .int .i64 0, .slice none 0 0] ?_; intro gb324 hg w38 hbox hb; replace HO_4 := zr HO_4 hb; replace HO313 := zr HO313 hb; replace HO322 := zr HO322 hb; have BK324 := zA (hbox); have GW324 := zi HB hg; have GE324 := zi HB hg; replace HB := zh HB hb; have NB315_324 := zA (zL hg (zK BK315.out)); have NB324_315 := zA (zJ hg (zK BK315.out)); replace BK315 := zb BK315 hb; clear hb hbox hg; have hnb39 := NB324_315.out; have hnc39 := NB315_324.out; obtain ⟨hcz40_0, hcz40_1, hcz40_2, hcz40_3, hfz40_0, hfz40_1, hfz40_2, hfz40_3⟩ := ze4 BK324.out; obtain ⟨Ao41, co41, eo41⟩ := Kd.R_slice HO322.out; subst eo41) | ((with_reducible refine gate_store (t := 26) (p := 7) rfl ?_); refine store_event (t := 26) (p := 7) (v := ?vo_w42) (w1 := ((((w38.setCell ⟨gb324, 0, none⟩ (.int .i64 t317)).setCell ⟨gb324, 1, none⟩ (.int .i64 t318)).setCell ⟨gb324, 2, none⟩ (.int .i64 t319)).setCell ⟨gb324, 3, none⟩ (.slice Ao41 t320.length co41))) ?hg ?ho ?hn ?hr ?_; (case ho => rfl); (case hg => rfl); (case hn => rfl); (case hr => first | (go_simp; done) | (go_simp; rfl)); intro w42 hw; have n0_ : Aside0 (Kd.R Kd.string 9 w42 w.heap.size (fun k_ => (w.heap.size ≤ k_) ∧ some k_ ≠ (.slice Ao36 t311.length co36 : Value).ownBlock ∧ some k_ ≠ (.slice Ao41 t320.length co41 : Value).ownBlock) (.slice (some ad307) t303.length co32) t303) := ⟨(by rw [hw]; exact (by (with_reducible repeat (first | apply Kd.R_alloc | apply Kd.R_drewN | apply Kd.R_drew)); exact Kd.R_mono (Kd.R_far (p := ⟨gb324, 3, none⟩) (Kd.R_far (p := ⟨gb324, 2, none⟩) (Kd.R_far (p := ⟨gb324, 1, none⟩) (Kd.R_far (p := ⟨gb324, 0, none⟩) (Kd.R_types HO_4.out BK324.out (by decide)) (fun _ hk => hk.2) (.int .i64 t317)) (fun _ hk => hk.2) (.int .i64 t318)) (fun _ hk => hk.2) (.int .i64 t319)) (fun _ hk => hk.2) (.slice Ao41 t320.length co41)) (fun _ hk => ⟨hk.1.1.1, ⟨hk.1.1.2, hk.1.2⟩⟩)))⟩; have n1_ : Aside0 (Kd.R Kd.string 9 w42 w.heap.size (fun k_ => (w.heap.size ≤ k_) ∧ some k_ ≠ (.slice (some ad307) t303.length co32 : Value).ownBlock ∧ some k_ ≠ (.slice Ao41 t320.length co41 : Value).ownBlock) (.slice Ao36 t311.length co36) t311) := ⟨(by rw [hw]; exact (by (with_reducible repeat (first | apply Kd.R_alloc | apply Kd.R_drewN | apply Kd.R_drew)); exact Kd.R_mono (Kd.R_far (p := ⟨gb324, 3, none⟩) (Kd.R_far (p := ⟨gb324, 2, none⟩) (Kd.R_far (p := ⟨gb324, 1, none⟩) (Kd.R_far (p := ⟨gb324, 0, none⟩) (Kd.R_types HO313.out BK324.out (by decide)) (fun _ hk => hk.2) (.int .i64 t317)) (fun _ hk => hk.2) (.int .i64 t318)) (fun _ hk => hk.2) (.int .i64 t319)) (fun _ hk => hk.2) (.slice Ao41 t320.length co41)) (fun _ hk => ⟨hk.1.1.1.1, ⟨hk.1.1.2, hk.1.2⟩⟩)))⟩; have n2_ : Aside0 (Kd.R Kd.string 9 w42 w.heap.size (fun k_ => (w.heap.size ≤ k_) ∧ some k_ ≠ (.slice (some ad307) t303.length co32 : Value).ownBlock ∧ some k_ ≠ (.slice Ao36 t311.length co36 : Value).ownBlock) (.slice Ao41 t320.length co41) t320) := ⟨(by rw [hw]; exact (by (with_reducible repeat (first | apply Kd.R_alloc | apply Kd.R_drewN | apply Kd.R_drew)); exact Kd.R_mono (Kd.R_far (p := ⟨gb324, 3, none⟩) (Kd.R_far (p := ⟨gb324, 2, none⟩) (Kd.R_far (p := ⟨gb324, 1, none⟩) (Kd.R_far (p := ⟨gb324, 0, none⟩) (Kd.R_types HO322.out BK324.out (by decide)) (fun _ hk => hk.2) (.int .i64 t317)) (fun _ hk => hk.2) (.int .i64 t318)) (fun _ hk => hk.2) (.int .i64 t319)) (fun _ hk => hk.2) (.slice Ao41 t320.length co41)) (fun _ hk => ⟨hk.1.1.1.1, ⟨hk.1.1.2, hk.1.2⟩⟩)))⟩; have n3_ : Aside0 (w42.heap[gb315]? = some (.cells #[.int .i64 t308, .int .i64 t309, .int .i64 t310, .slice Ao36 t311.length co36] 26 (0, 0))) := ⟨(by rw [hw]; exact (zK BK315.out))⟩; have n4_ : Aside0 (w42.heap[gb324]? = some (.cells #[.int .i64 t317, .int .i64 t318, .int .i64 t319, .slice Ao41 t320.length co41] 26 (0, 0))) := ⟨(by rw [hw]; exact (by (with_reducible repeat (first | refine blk_drewN ?_ _ | refine blk_drew ?_ | refine blk_alloc ?_ _)); refine blk_put (cs := #[.int .i64 t317, .int .i64 t318, .int .i64 t319, .slice none 0 0]) ?_ 3 _ rfl; (with_reducible repeat (first | refine blk_drewN ?_ _ | refine blk_drew ?_ | refine blk_alloc ?_ _)); refine blk_put (cs := #[.int .i64 t317, .int .i64 t318, .int .i64 0, .slice none 0 0]) ?_ 2 _ rfl; (with_reducible repeat (first | refine blk_drewN ?_ _ | refine blk_drew ?_ | refine blk_alloc ?_ _)); refine blk_put (cs := #[.int .i64 t317, .int .i64 0, .int .i64 0, .slice none 0 0]) ?_ 1 _ rfl; (with_reducible repeat (first | refine blk_drewN ?_ _ | refine blk_drew ?_ | refine blk_alloc ?_ _)); refine blk_put (cs := #[.int .i64 0, .int .i64 0, .int .i64 0, .slice none 0 0]) ?_ 0 _ rfl; (with_reducible repeat (first | refine blk_drewN ?_ _ | refine blk_drew ?_ | refine blk_alloc ?_ _)); exact BK324.out))⟩; have n5_ : Aside0 (Below w.heap.size w w42) := ⟨(by rw [hw]; exact (zW HB.out))⟩; clear hw; clear HO_4; clear HO313; clear HO322; clear BK315; clear BK324; clear HB; have HO_4 := n0_; have HO313 := n1_; have HO322 := n2_; have BK315 := n3_; have BK324 := n4_; have HB := n5_; clear n0_ n1_ n2_ n3_ n4_ n5_; obtain ⟨hcz43_0, hcz43_1, hcz43_2, hcz43_3, hfz43_0, hfz43_1, hfz43_2, hfz43_3⟩ := ze4 BK315.out; obtain ⟨hcz44_0, hcz44_1, hcz44_2, hcz44_3, hfz44_0, hfz44_1, hfz44_2, hfz44_3⟩ := ze4 BK324.out) | ((with_reducible refine gate_dst (N := 46) rfl ?_); refine Kd.N_lit k57 _ 57 ?hg (N' := 46) ?hd (xs := ([(⟨4, (⟨t308, t309, t310, t311⟩ : S26)⟩ : S57), (⟨2, (⟨t317, t318, t319, t320⟩ : S26)⟩ : S57)] : List (S57))) (inner := [.int .i64 4, .int .i64 t308, .int .i64 t309, .int .i64 t310, .slice Ao36 t311.length co36, .int .i64 2, .int .i64 t317, .int .i64 t318, .int .i64 t319, .slice Ao41 t320.length co41]) (ok := (fun k_ => (w.heap.size ≤ k_) ∧ some k_ ≠ (.slice (some ad307) t303.length co32 : Value).ownBlock ∧ k_ ≠ gb315 ∧ k_ ≠ gb324)) (okp := (fun k_ => (w.heap.size ≤ k_) ∧ some k_ ≠ (.slice (some ad307) t303.length co32 : Value).ownBlock ∧ k_ ≠ gb315 ∧ k_ ≠ gb324)) ?hr ?hp (fun _ hk => hk) ((show ∀ k_, w42.heap.size ≤ k_ → (fun k_ => (w.heap.size ≤ k_) ∧ some k_ ≠ (.slice (some ad307) t303.length co32 : Value).ownBlock ∧ k_ ≠ gb315 ∧ k_ ≠ gb324) k_ from fun k_ hk => ⟨(Nat.le_trans (below_size (zW HB.out)) hk), Kd.fresh' (Kd.R_lt (zR HO_4.out)) k_ hk, Kd.freshB (g := gb315) (o := .cells #[.int .i64 t308, .int .i64 t309, .int .i64 t310, .slice Ao36 t311.length co36] 26 (0, 0)) (zK BK315.out) k_ hk, Kd.freshB (g := gb324) (o := .cells #[.int .i64 t317, .int .i64 t318, .int .i64 t319, .slice Ao41 t320.length co41] 26 (0, 0)) (zK BK324.out) k_ hk⟩) _ (Nat.le_refl _)) (Below.refl _ _) (Nat.le_refl _) (by simp) ?_; (case hd => rfl); (case hg => rfl); (case hr => first | (go_simp; done) | (go_simp; rfl)); (case hp => exact (Reps.c5 (show Kd.FK k57 _ _ (⟨4, (⟨t308, t309, t310, t311⟩ : S26)⟩ : S57) [.int .i64 4, .int .i64 t308, .int .i64 t309, .int .i64 t310, .slice Ao36 t311.length co36] from (k57_mkF _ _ (⟨4, (⟨t308, t309, t310, t311⟩ : S26)⟩ : S57) (Kd.R_reads' (Kd.R_mono (ok' := (fun k_ => (w.heap.size ≤ k_) ∧ some k_ ≠ (.slice (some ad307) t303.length co32 : Value).ownBlock ∧ k_ ≠ gb315 ∧ k_ ≠ gb324)) (Kd.R_types (Kd.R_types (HO313.out) BK315.out (by decide)) BK324.out (by decide)) (fun k_ hk => ⟨hk.1.1.1, ⟨hk.1.1.2.1, ⟨hk.1.2, hk.2⟩⟩⟩))).2.1 (Kd.R_F (Kd.R_mono (ok' := (fun k_ => (w.heap.size ≤ k_) ∧ some k_ ≠ (.slice (some ad307) t303.length co32 : Value).ownBlock ∧ k_ ≠ gb315 ∧ k_ ≠ gb324)) (Kd.R_types (Kd.R_types (HO313.out) BK315.out (by decide)) BK324.out (by decide)) (fun k_ hk => ⟨hk.1.1.1, ⟨hk.1.1.2.1, ⟨hk.1.2, hk.2⟩⟩⟩))))) (Reps.c5 (show Kd.FK k57 _ _ (⟨2, (⟨t317, t318, t319, t320⟩ : S26)⟩ : S57) [.int .i64 2, .int .i64 t317, .int .i64 t318, .int .i64 t319, .slice Ao41 t320.length co41] from (k57_mkF _ _ (⟨2, (⟨t317, t318, t319, t320⟩ : S26)⟩ : S57) (Kd.R_reads' (Kd.R_mono (ok' := (fun k_ => (w.heap.size ≤ k_) ∧ some k_ ≠ (.slice (some ad307) t303.length co32 : Value).ownBlock ∧ k_ ≠ gb315 ∧ k_ ≠ gb324)) (Kd.R_types (Kd.R_types (HO322.out) BK315.out (by decide)) BK324.out (by decide)) (fun k_ hk => ⟨hk.1.1.1, ⟨hk.1.1.2.1, ⟨hk.1.2, hk.2⟩⟩⟩))).2.1 (Kd.R_F (Kd.R_mono (ok' := (fun k_ => (w.heap.size ≤ k_) ∧ some k_ ≠ (.slice (some ad307) t303.length co32 : Value).ownBlock ∧ k_ ≠ gb315 ∧ k_ ≠ gb324)) (Kd.R_types (Kd.R_types (HO322.out) BK315.out (by decide)) BK324.out (by decide)) (fun k_ hk => ⟨hk.1.1.1, ⟨hk.1.1.2.1, ⟨hk.1.2, hk.2⟩⟩⟩))))) (Reps.none _ _)))); intro v326 w45 ho46 hb hg_ hnew_; clear hg_ hnew_; (first | rw [← Ny325.out] at ho46 | (simp only [Int.reduceToNat] at ho46; rw [← Ny325.out] at ho46)); replace HO_4 := zr HO_4 hb; have HO327 := zA (Kd.N_lower ho46 (below_size (zW HB.out))); replace BK315 := zb BK315 hb; replace BK324 := zb BK324 hb; replace HB := zh HB hb; clear HO313 HO322; clear hb ho46))
        go_ret2
        exact ⟨_, zE, by (with_reducible repeat (first | apply Kd.N_alloc | apply Kd.N_drewN | apply Kd.N_drew)); exact Kd.N_mono HO327.out (fun _ hk => hk.1), zW HB.out⟩
      ·rw [if_neg c14] at H
       exact absurd H (by simp)
     ·rw [if_neg c12] at H
      exact absurd H (by simp)
    ·replace c11 := Bool.eq_false_iff.mpr c11
     subst c11
     rw [if_neg zFT] at H
     have H' := Aside0.mk H
     clear H
     go_wp2
     go_meet
     case rel => exact ⟨_, (by first | exact H' | (subst_vars; exact H')), ⟨by have := HJ3.out; first | omega | exact Nat.le_refl _⟩, ⟨zR HO_4.out⟩, ⟨zB⟩⟩
   case rest =>
    clear HC10
    try clear c1
    try clear c2
    try clear p2
    try clear c3
    try clear p3
    try clear q3
    try clear hx3
    try clear qi3
    try clear c5
    try clear c6
    try clear c6b0
    try clear c6b1
    try clear c7
    try clear c7b0
    try clear c7b1
    try clear c11
    try clear c12
    try clear c12b0
    try clear c12b1
    try clear c13
    try clear c14
    try clear c14b0
    try clear c14b1
    try clear c16
    try clear c23
    try clear c24
    try clear p30
    try clear q30
    try clear hx30
    try clear qi30
    try clear p31
    try clear q31
    try clear hx31
    try clear qi31
    try clear c39
    try clear hcz20_0
    try clear hcz20_1
    try clear hcz20_2
    try clear hcz20_3
    try clear hcz25_0
    try clear hcz25_1
    try clear hcz25_2
    try clear hcz25_3
    try clear hcz28_0
    try clear hcz28_1
    try clear hcz28_2
    try clear hcz28_3
    try clear hcz29_0
    try clear hcz29_1
    try clear hcz29_2
    try clear hcz29_3
    try clear hcz35_0
    try clear hcz35_1
    try clear hcz35_2
    try clear hcz35_3
    try clear hcz40_0
    try clear hcz40_1
    try clear hcz40_2
    try clear hcz40_3
    try clear hcz43_0
    try clear hcz43_1
    try clear hcz43_2
    try clear hcz43_3
    try clear hcz44_0
    try clear hcz44_1
    try clear hcz44_2
    try clear hcz44_3
    try clear hfz20_0
    try clear hfz20_1
    try clear hfz20_2
    try clear hfz20_3
    try clear hfz25_0
    try clear hfz25_1
    try clear hfz25_2
    try clear hfz25_3
    try clear hfz28_0
    try clear hfz28_1
    try clear hfz28_2
    try clear hfz28_3
    try clear hfz29_0
    try clear hfz29_1
    try clear hfz29_2
    try clear hfz29_3
    try clear hfz35_0
    try clear hfz35_1
    try clear hfz35_2
    try clear hfz35_3
    try clear hfz40_0
    try clear hfz40_1
    try clear hfz40_2
    try clear hfz40_3
    try clear hfz43_0
    try clear hfz43_1
    try clear hfz43_2
    try clear hfz43_3
    try clear hfz44_0
    try clear hfz44_1
    try clear hfz44_2
    try clear hfz44_3
    try clear hx306_0
    try clear hx307_0
    try clear hx316_0
    try clear p2
    try clear p3
    try clear p306
    try clear p307
    try clear p316
    try clear q3
    try clear q306
    try clear q307
    try clear q316
    obtain ⟨kq, HA, HJ9, HO_4, HB⟩ := hcut
    cases kq with
    | zero => exact absurd HA.out (by simp [impl_listOf.j1])
    | succ kj9 =>
     have H := HA.out
     clear HA
     simp only [impl_listOf.j1] at H
     have H' := Aside0.mk H
     clear H
     obtain ⟨Ao47, co47, eo47⟩ := Kd.R_slice HO_4.out
     subst eo47
     go_wp2
     go_loopg [9, 53] kj9 (fun kq v9 v53 w' => ∃ (x9_3 : List (S57)) (x53_3 : Int), v53 = .int .i64 x53_3 ∧ Aside0 (impl_listOf.l0 kq x9_3 t303 (t303.length : Int) x53_3 = some (r1, r2)) ∧ Aside0 (kq ≤ kj9) ∧ Aside0 (Kd.N k57 57 w' w.heap.size (fun k_ => (w.heap.size ≤ k_) ∧ some k_ ≠ ((.slice Ao47 t303.length co47) : Value).ownBlock) v9 x9_3) ∧ Aside0 (Kd.R Kd.string 9 w' w.heap.size (fun k_ => (w.heap.size ≤ k_)) (.slice Ao47 t303.length co47) t303) ∧ Aside0 (Below w.heap.size w w'))
     case atStart => exact ⟨(([] : List (S57))), (0), zS, H', ⟨Nat.le_refl _⟩, ⟨by first | exact Kd.S_nil _ _ _ _ _ | exact Kd.N_nil _ _ _ _ _ | exact Kd.V_nil _ _ _ _ _ | exact Kd.Q_nil _ _ _ _ _ | exact Kd.R_nil _ _ _ _ _⟩, ⟨zR HO_4.out⟩, ⟨zB⟩⟩
     case round =>
      clear H'
      try clear c1
      try clear c2
      try clear p2
      try clear c3
      try clear p3
      try clear q3
      try clear hx3
      try clear qi3
      try clear c5
      try clear c6
      try clear c6b0
      try clear c6b1
      try clear c7
      try clear c7b0
      try clear c7b1
      try clear c11
      try clear c12
      try clear c12b0
      try clear c12b1
      try clear c13
      try clear c14
      try clear c14b0
      try clear c14b1
      try clear c16
      try clear c23
      try clear c24
      try clear p30
      try clear q30
      try clear hx30
      try clear qi30
      try clear p31
      try clear q31
      try clear hx31
      try clear qi31
      try clear c39
      try clear hcz20_0
      try clear hcz20_1
      try clear hcz20_2
      try clear hcz20_3
      try clear hcz25_0
      try clear hcz25_1
      try clear hcz25_2
      try clear hcz25_3
      try clear hcz28_0
      try clear hcz28_1
      try clear hcz28_2
      try clear hcz28_3
      try clear hcz29_0
      try clear hcz29_1
      try clear hcz29_2
      try clear hcz29_3
      try clear hcz35_0
      try clear hcz35_1
      try clear hcz35_2
      try clear hcz35_3
      try clear hcz40_0
      try clear hcz40_1
      try clear hcz40_2
      try clear hcz40_3
      try clear hcz43_0
      try clear hcz43_1
      try clear hcz43_2
      try clear hcz43_3
      try clear hcz44_0
      try clear hcz44_1
      try clear hcz44_2
      try clear hcz44_3
      try clear hfz20_0
      try clear hfz20_1
      try clear hfz20_2
      try clear hfz20_3
      try clear hfz25_0
      try clear hfz25_1
      try clear hfz25_2
      try clear hfz25_3
      try clear hfz28_0
      try clear hfz28_1
      try clear hfz28_2
      try clear hfz28_3
      try clear hfz29_0
      try clear hfz29_1
      try clear hfz29_2
      try clear hfz29_3
      try clear hfz35_0
      try clear hfz35_1
      try clear hfz35_2
      try clear hfz35_3
      try clear hfz40_0
      try clear hfz40_1
      try clear hfz40_2
      try clear hfz40_3
      try clear hfz43_0
      try clear hfz43_1
      try clear hfz43_2
      try clear hfz43_3
      try clear hfz44_0
      try clear hfz44_1
      try clear hfz44_2
      try clear hfz44_3
      try clear hx306_0
      try clear hx307_0
      try clear hx316_0
      try clear p2
      try clear p3
      try clear p30
      try clear p306
      try clear p307
      try clear p31
      try clear p316
      try clear q3
      try clear q30
      try clear q306
      try clear q307
      try clear q31
      try clear q316
      obtain ⟨x9_3, x53_3, rfl, HA, HK3, HO_9, HO_51, HB⟩ := hrel
      cases gk with
      | zero => exact absurd HA.out (by simp [impl_listOf.l0])
      | succ k3 =>
       have H := HA.out
       clear HA
       simp only [impl_listOf.l0] at H
       by_cases c48 : x53_3 < (t303.length : Int)
       ·rw [if_pos c48] at H
        have c48b0 := decide_eq_true c48
        clear c48
        by_cases c49 : 0 ≤ x53_3
        ·rw [if_pos c49] at H
         have c49b0 := decide_eq_true c49
         clear c49
         by_cases c50 : x53_3 < (t303.length : Int)
         ·rw [if_pos c50] at H
          have c50b0 := decide_eq_true c50
          clear c50
          replace H := Option.bind_eq_some_iff.mp H
          obtain ⟨⟨t329, t332⟩, A510, H⟩ := H
          try dsimp only at H
          have A51 := Aside0.mk A510
          clear A510
          by_cases c52 : t332 = true
          ·subst c52
           rw [if_pos rfl] at H
           by_cases c53 : x9_3.length + t329.length < 2513169434916
           ·rw [if_pos c53] at H
            have LMc53 := Aside0.mk c53
            clear c53
            obtain ⟨y333, hy333⟩ : ∃ y_ : List (S57), y_ = (x9_3 ++ t329) := ⟨_, rfl⟩
            replace H : (impl_listOf.l0 k3 y333 t303 (t303.length : Int) (wrap64 (x53_3 + 1))) = some (r1, r2) := by first | (rw [hy333]; with_reducible exact H) | (have H2_ := (Option.bind_some _ _).symm.trans H; rw [hy333]; with_reducible exact H2_) | (have H2_ := (Option.bind_some _ _).symm.trans H; with_reducible exact H2_) | with_reducible exact H | (rw [hy333]; exact H) | exact H
            have Ny333 := Aside0.mk hy333
            clear hy333
            have H' := Aside0.mk H
            clear H
            have p328 : 0 ≤ (x53_3 : Int) := zD
            have q328 : x53_3 < (t303.length : Int) := zD
            obtain ⟨ad328, e328, hx328_0⟩ := Kd.at_string (Kd.R_reads' HO_51.out).2.2 x53_3 p328 q328
            cases e328
            replace p328 := eq_true p328
            replace q328 := eq_true q328
            go_wp2_with (first | ((with_reducible refine zq 25 ?_); refine zg (some 59) Tryd.func25 #[.string (rdOf ByteArray.empty t303 x53_3)] ?_; (with_reducible refine (impl_cmpsOf.calls k3 (rdOf ByteArray.empty t303 x53_3) t329 true _ ?side1 A51.out).mono ?_); (case side1 => exact GW.below HG.out (zB)); rintro e w54 ⟨v330, rfl, ho0, hb⟩; refine ⟨_, rfl, ?_⟩; have HO331 := zA (Kd.N_lower (Kd.N_mono (ok' := fun k_ => (w.heap.size ≤ k_) ∧ some k_ ≠ (u9 : Value).ownBlock ∧ some k_ ≠ (.slice (some ad328) t303.length co47 : Value).ownBlock) ho0 (fun k_ hk_ => ⟨(Nat.le_trans (below_size (zB)) hk_), (Kd.fresh' (Kd.N_lt (zN HO_9.out)) k_ hk_), (Kd.fresh' (Kd.R_lt (zR HO_51.out)) k_ hk_)⟩)) (below_size (zB))); replace HO_9 := zA (Kd.N_elder' (zN HO_9.out) (Kd.N_base ho0) hb); replace HO_51 := zr HO_51 hb; replace HB := zA (below_step (zB) hb); (try clear hb ho0); obtain ⟨Ao56, co56, eo56⟩ := Kd.N_slice HO331.out; subst eo56) | ((with_reducible refine gate_builtin (b := .append) (xs := #[.tmp 64, .tmp 65]) rfl ?_); at_builtin; refine Kd.N_append_rows k57 (w0 := w) w.heap.size rfl (.tmp 64) (.tmp 65) 39 57 (.agg #[(.int .i64 0), (.int .i64 0), (.int .i64 0), (.int .i64 0), (.slice none 0 0)]) 56 rfl Tryd.underlying39 info57 rfl (by decide) (by omega) u9 x9_3 t329 _ _ _ (fun k_ => (w.heap.size ≤ k_) ∧ some k_ ≠ (.slice (some ad328) t303.length co47 : Value).ownBlock) (fun k_ => ((fun k_ => (w.heap.size ≤ k_) ∧ some k_ ≠ (.slice (some ad328) t303.length co47 : Value).ownBlock)) k_ ∧ some k_ ≠ (u9 : Value).ownBlock) rfl rfl ?aO ?aR (fun _ hk => hk) ?aF ?aB ?aS ?aL ?_; (case aR => exact (by skip; exact Kd.N_F (Kd.N_mono (ok' := (fun k_ => ((fun k_ => (w.heap.size ≤ k_) ∧ some k_ ≠ (.slice (some ad328) t303.length co47 : Value).ownBlock)) k_ ∧ some k_ ≠ (u9 : Value).ownBlock)) (HO331.out) (fun k_ hk => ⟨⟨hk.1, hk.2.2⟩, hk.2.1⟩)))); (case aB => exact (zB)); (case aF => exact (fun k_ hk => ⟨(Nat.le_trans (below_size (zB)) hk), Kd.fresh' (Kd.R_lt (zR HO_51.out)) k_ hk⟩)); (case aO => exact (by (with_reducible repeat (first | apply Kd.N_alloc | apply Kd.N_drewN | apply Kd.N_drew)); exact Kd.N_mono HO_9.out (fun _ hk => ⟨hk.1.1, hk.1.2⟩))); (case aS => exact (below_size (zB))); (case aL => have := LMc53.out; omega); intro v334 w55 ho hb hg hat; rw [← Ny333.out] at ho; replace HO_51 := zA (Kd.R_over' (zR HO_51.out) (Kd.N_typed (zN HO_9.out)) (by decide) hg); replace HO331 := zA (Kd.N_afterv (ok := (fun k_ => (w.heap.size ≤ k_) ∧ some k_ ≠ (.slice (some ad328) t303.length co47 : Value).ownBlock)) (by (with_reducible repeat (first | apply Kd.N_alloc | apply Kd.N_drewN | apply Kd.N_drew)); exact Kd.N_mono HO331.out (fun _ hk => ⟨⟨hk.1, hk.2.2⟩, hk.2.1⟩)) hg hat); replace HB := zA (hb); have HO335 := zA (ho); clear HO_9; clear ho hb hg hat))
            go_roundg k3
            case measure => have := HJ3.out; have := HJ9.out; have := HK3.out; omega
            case rel => exact ⟨(y333), (wrap64 (x53_3 + 1)), zS, H', ⟨by have := HJ3.out; have := HJ9.out; have := HK3.out; omega⟩, ⟨by (with_reducible repeat (first | apply Kd.N_alloc | apply Kd.N_drewN | apply Kd.N_drew)); exact HO335.out⟩, ⟨zR HO_51.out⟩, ⟨zB⟩⟩
           ·rw [if_neg c53] at H
            exact absurd H (by simp)
          ·replace c52 := Bool.eq_false_iff.mpr c52
           subst c52
           rw [if_neg zFT] at H
           simp only [Option.some.injEq, Prod.mk.injEq] at H
           obtain ⟨rfl, rfl⟩ := H
           have p328 : 0 ≤ (x53_3 : Int) := zD
           have q328 : x53_3 < (t303.length : Int) := zD
           obtain ⟨ad328, e328, hx328_0⟩ := Kd.at_string (Kd.R_reads' HO_51.out).2.2 x53_3 p328 q328
           cases e328
           replace p328 := eq_true p328
           replace q328 := eq_true q328
           go_wp2_with (first | ((with_reducible refine zq 25 ?_); refine zg (some 59) Tryd.func25 #[.string (rdOf ByteArray.empty t303 x53_3)] ?_; (with_reducible refine (impl_cmpsOf.calls k3 (rdOf ByteArray.empty t303 x53_3) t329 false _ ?side1 A51.out).mono ?_); (case side1 => exact GW.below HG.out (zB)); rintro e w57 ⟨v330, rfl, ho0, hb⟩; refine ⟨_, rfl, ?_⟩; have HO331 := zA (Kd.N_lower (Kd.N_mono (ok' := fun k_ => (w.heap.size ≤ k_) ∧ some k_ ≠ (u9 : Value).ownBlock ∧ some k_ ≠ (.slice (some ad328) t303.length co47 : Value).ownBlock) ho0 (fun k_ hk_ => ⟨(Nat.le_trans (below_size (zB)) hk_), (Kd.fresh' (Kd.N_lt (zN HO_9.out)) k_ hk_), (Kd.fresh' (Kd.R_lt (zR HO_51.out)) k_ hk_)⟩)) (below_size (zB))); replace HO_9 := zA (Kd.N_elder' (zN HO_9.out) (Kd.N_base ho0) hb); replace HO_51 := zr HO_51 hb; replace HB := zA (below_step (zB) hb); (try clear hb ho0)))
           go_ret2
           exact ⟨_, zE, by first | exact Kd.S_nil _ _ _ _ _ | exact Kd.N_nil _ _ _ _ _ | exact Kd.V_nil _ _ _ _ _ | exact Kd.Q_nil _ _ _ _ _ | exact Kd.R_nil _ _ _ _ _, zB⟩
         ·rw [if_neg c50] at H
          exact absurd H (by simp)
        ·rw [if_neg c49] at H
         exact absurd H (by simp)
       ·rw [if_neg c48] at H
        have c48b0 := decide_eq_false c48
        clear c48
        have H' := Aside0.mk H
        clear H
        obtain ⟨Ao58, co58, eo58⟩ := Kd.N_slice HO_9.out
        subst eo58
        go_wp2
        go_loopg [70] k3 (fun kq v70 w' => ∃ (x70_4 : Int), v70 = .int .i64 x70_4 ∧ Aside0 (impl_listOf.l1 kq x9_3 x9_3 (x9_3.length : Int) x70_4 = some (r1, r2)) ∧ Aside0 (kq ≤ k3) ∧ Aside0 (Kd.N k57 57 w' w.heap.size (fun k_ => (w.heap.size ≤ k_)) (.slice Ao58 x9_3.length co58) x9_3) ∧ Aside0 (Kd.N k57 57 w' w.heap.size (fun k_ => (w.heap.size ≤ k_)) (.slice Ao58 x9_3.length co58) x9_3) ∧ Aside0 (Below w.heap.size w w'))
        case atStart => exact ⟨(0), zS, H', ⟨Nat.le_refl _⟩, ⟨by (with_reducible repeat (first | apply Kd.N_alloc | apply Kd.N_drewN | apply Kd.N_drew)); exact Kd.N_mono HO_9.out (fun _ hk => hk.1)⟩, ⟨by (with_reducible repeat (first | apply Kd.N_alloc | apply Kd.N_drewN | apply Kd.N_drew)); exact Kd.N_mono HO_9.out (fun _ hk => hk.1)⟩, ⟨zB⟩⟩
        case round =>
         clear H'
         try clear c1
         try clear c2
         try clear p2
         try clear c3
         try clear p3
         try clear q3
         try clear hx3
         try clear qi3
         try clear c4
         try clear c5
         try clear c6
         try clear c6b0
         try clear c6b1
         try clear p6
         try clear c7
         try clear c7b0
         try clear c7b1
         try clear c11
         try clear c12
         try clear c12b0
         try clear c12b1
         try clear c13
         try clear c14
         try clear c14b0
         try clear c14b1
         try clear c16
         try clear c23
         try clear c24
         try clear c25
         try clear p30
         try clear q30
         try clear hx30
         try clear qi30
         try clear p31
         try clear q31
         try clear hx31
         try clear qi31
         try clear p32
         try clear q32
         try clear hx32
         try clear c39
         try clear c48
         try clear c48b0
         try clear c49
         try clear c49b0
         try clear c50
         try clear c50b0
         try clear c52
         try clear c53
         try clear hcz20_0
         try clear hcz20_1
         try clear hcz20_2
         try clear hcz20_3
         try clear hcz25_0
         try clear hcz25_1
         try clear hcz25_2
         try clear hcz25_3
         try clear hcz28_0
         try clear hcz28_1
         try clear hcz28_2
         try clear hcz28_3
         try clear hcz29_0
         try clear hcz29_1
         try clear hcz29_2
         try clear hcz29_3
         try clear hcz35_0
         try clear hcz35_1
         try clear hcz35_2
         try clear hcz35_3
         try clear hcz40_0
         try clear hcz40_1
         try clear hcz40_2
         try clear hcz40_3
         try clear hcz43_0
         try clear hcz43_1
         try clear hcz43_2
         try clear hcz43_3
         try clear hcz44_0
         try clear hcz44_1
         try clear hcz44_2
         try clear hcz44_3
         try clear hfz20_0
         try clear hfz20_1
         try clear hfz20_2
         try clear hfz20_3
         try clear hfz25_0
         try clear hfz25_1
         try clear hfz25_2
         try clear hfz25_3
         try clear hfz28_0
         try clear hfz28_1
         try clear hfz28_2
         try clear hfz28_3
         try clear hfz29_0
         try clear hfz29_1
         try clear hfz29_2
         try clear hfz29_3
         try clear hfz35_0
         try clear hfz35_1
         try clear hfz35_2
         try clear hfz35_3
         try clear hfz40_0
         try clear hfz40_1
         try clear hfz40_2
         try clear hfz40_3
         try clear hfz43_0
         try clear hfz43_1
         try clear hfz43_2
         try clear hfz43_3
         try clear hfz44_0
         try clear hfz44_1
         try clear hfz44_2
         try clear hfz44_3
         try clear hx306_0
         try clear hx307_0
         try clear hx316_0
         try clear hx328_0
         try clear p2
         try clear p3
         try clear p30
         try clear p306
         try clear p307
         try clear p31
         try clear p316
         try clear p328
         try clear q3
         try clear q30
         try clear q306
         try clear q307
         try clear q31
         try clear q316
         try clear q328
         obtain ⟨x70_4, rfl, HA, HK4, HO_9, HO_68, HB⟩ := hrel
         cases gk with
         | zero => exact absurd HA.out (by simp [impl_listOf.l1])
         | succ k4 =>
          have H := HA.out
          clear HA
          simp only [impl_listOf.l1] at H
          by_cases c59 : x70_4 < (x9_3.length : Int)
          ·rw [if_pos c59] at H
           have c59b0 := decide_eq_true c59
           clear c59
           by_cases c60 : 0 ≤ x70_4
           ·rw [if_pos c60] at H
            have c60b0 := decide_eq_true c60
            clear c60
            by_cases c61 : x70_4 < (x9_3.length : Int)
            ·rw [if_pos c61] at H
             have c61b0 := decide_eq_true c61
             clear c61
             replace H := Option.bind_eq_some_iff.mp H
             obtain ⟨t338, A620, H⟩ := H
             try dsimp only at H
             have A62 := Aside0.mk A620
             clear A620
             by_cases c63 : t338 = true
             ·subst c63
              rw [if_pos rfl] at H
              have H' := Aside0.mk H
              clear H
              have p336 : 0 ≤ (x70_4 : Int) := zD
              have q336 : x70_4 < (x9_3.length : Int) := zD
              obtain ⟨ad336, A336_4, c336_4, e336, hx336_0, hx336_1, hx336_2, hx336_3, hx336_4, hl336_4, hi336_4⟩ := at_T57 (Kd.N_reads' HO_68.out).2.2 x70_4 p336 q336
              cases e336
              obtain ⟨ce336, hce336, hMe336, hcc336⟩ := Kd.N_get HO_68.out z57 x70_4 p336 (by first | exact q336 | exact zD | (have e_ := (Kd.N_reads' HO_68.out).1; omega))
              obtain ⟨ua336_4, uc336_4, rfl, ul336_4, ge336_4⟩ := k57_openF hMe336
              have hv336_4 := hcc336 4 _ rfl
              rw [add_field _ _ 4 (by omega)] at hv336_4
              replace hv336_4 := Option.some.inj (hv336_4.symm.trans hx336_4)
              injection hv336_4 with hva_ hvn_ hvc_
              rw [hva_] at ge336_4
              rw [hvc_] at ul336_4
              have HL336_4 := zA (show Kd.V Kd.string 9 _ w.heap.size _ _ ((rd_T57 x9_3 x70_4).f1.f3) from Kd.V_mk ul336_4 ge336_4)
              clear hva_ hvn_ hvc_ ge336_4 ul336_4
              clear hcc336 hce336
              have HR336_4 := Aside0.mk hi336_4
              have HC336_4 := Aside0.mk hl336_4
              clear hi336_4 hl336_4
              replace p336 := eq_true p336
              replace q336 := eq_true q336
              go_wp2_with (first | ((with_reducible refine zd 15 ?_); refine ze 15 57 #[.int .i64 0, .int .i64 0, .int .i64 0, .int .i64 0, .slice none 0 0] ?_; intro gb337 hg w64 hbox hb; replace HO_9 := zA (Kd.N_below (Kd.N_elderB (zN HO_9.out) gb337 (Nat.le_of_eq hg.symm)) hb); replace HO_68 := zA (Kd.N_below (Kd.N_elderB (zN HO_68.out) gb337 (Nat.le_of_eq hg.symm)) hb); replace HL336_4 := zA (Kd.V_below (Kd.V_elderB (zV HL336_4.out) gb337 (Nat.le_of_eq hg.symm)) hb); replace HR336_4 := zA (Kd.C_below (by repeat (first | (with_reducible exact HR336_4.out) | (with_reducible refine Kd.C_alloc ?_ _) | (with_reducible refine Kd.C_drewN ?_ _) | (with_reducible refine Kd.C_drew ?_) | exact HR336_4.out)) hb); have BK337 := zA (hbox); have GW337 := zi HB hg; have GE337 := zi HB hg; replace HB := zA (below_step (zB) hb); clear hb hbox hg; obtain ⟨hcz65_0, hcz65_1, hcz65_2, hcz65_3, hcz65_4, hfz65_0, hfz65_1, hfz65_2, hfz65_3, hfz65_4⟩ := ze5 BK337.out) | ((with_reducible refine zq 14 ?_); refine zg (some 76) Tryd.func14 #[.agg #[.int .i64 ((rd_T57 x9_3 x70_4).f1.f0), .int .i64 ((rd_T57 x9_3 x70_4).f1.f1), .int .i64 ((rd_T57 x9_3 x70_4).f1.f2), .slice A336_4 ((rd_T57 x9_3 x70_4).f1.f3).length c336_4]] ?_; (with_reducible refine (impl_VerOk.calls k4 ((rd_T57 x9_3 x70_4).f1.f0) ((rd_T57 x9_3 x70_4).f1.f1) ((rd_T57 x9_3 x70_4).f1.f2) _ _ ((rd_T57 x9_3 x70_4).f1.f3) true _ ?side1 ?side2 A62.out).mono ?_); (case side1 => repeat (first | exact ((Kd.V_reads' (by (with_reducible repeat (first | apply Kd.V_alloc | apply Kd.V_drewN | apply Kd.V_drew)); exact (Kd.V_mono (Kd.V_far (p := ⟨gb337, 4, none⟩) (Kd.V_far (p := ⟨gb337, 3, none⟩) (Kd.V_far (p := ⟨gb337, 2, none⟩) (Kd.V_far (p := ⟨gb337, 1, none⟩) (Kd.V_far (p := ⟨gb337, 0, none⟩) (Kd.V_mono HL336_4.out (fun k_ hk => (⟨hk, hk.2⟩ : _ ∧ k_ ≠ gb337))) (fun _ hk => hk.2) (.int .i64 ((rd_T57 x9_3 x70_4).f0))) (fun _ hk => hk.2) (.int .i64 ((rd_T57 x9_3 x70_4).f1.f0))) (fun _ hk => hk.2) (.int .i64 ((rd_T57 x9_3 x70_4).f1.f1))) (fun _ hk => hk.2) (.int .i64 ((rd_T57 x9_3 x70_4).f1.f2))) (fun _ hk => hk.2) (.slice A336_4 ((rd_T57 x9_3 x70_4).f1.f3).length c336_4)) (fun _ h_ => h_.1)))).2.2) | (with_reducible refine Kd.C_alloc ?_ _) | (with_reducible refine Kd.C_drewN ?_ _) | (with_reducible refine Kd.C_drew ?_))); (case side2 => exact HC336_4.out); rintro e w66 ⟨rfl, hb⟩; refine ⟨_, rfl, ?_⟩; replace HO_9 := zA (Kd.N_below (by (with_reducible repeat (first | apply Kd.N_alloc | apply Kd.N_drewN | apply Kd.N_drew)); exact (Kd.N_mono (Kd.N_far (p := ⟨gb337, 4, none⟩) (Kd.N_far (p := ⟨gb337, 3, none⟩) (Kd.N_far (p := ⟨gb337, 2, none⟩) (Kd.N_far (p := ⟨gb337, 1, none⟩) (Kd.N_far (p := ⟨gb337, 0, none⟩) (Kd.N_mono HO_9.out (fun k_ hk => (⟨hk, hk.2⟩ : _ ∧ k_ ≠ gb337))) (fun _ hk => hk.2) (.int .i64 ((rd_T57 x9_3 x70_4).f0))) (fun _ hk => hk.2) (.int .i64 ((rd_T57 x9_3 x70_4).f1.f0))) (fun _ hk => hk.2) (.int .i64 ((rd_T57 x9_3 x70_4).f1.f1))) (fun _ hk => hk.2) (.int .i64 ((rd_T57 x9_3 x70_4).f1.f2))) (fun _ hk => hk.2) (.slice A336_4 ((rd_T57 x9_3 x70_4).f1.f3).length c336_4)) (fun _ h_ => h_.1))) hb); replace HO_68 := zA (Kd.N_below (by (with_reducible repeat (first | apply Kd.N_alloc | apply Kd.N_drewN | apply Kd.N_drew)); exact (Kd.N_mono (Kd.N_far (p := ⟨gb337, 4, none⟩) (Kd.N_far (p := ⟨gb337, 3, none⟩) (Kd.N_far (p := ⟨gb337, 2, none⟩) (Kd.N_far (p := ⟨gb337, 1, none⟩) (Kd.N_far (p := ⟨gb337, 0, none⟩) (Kd.N_mono HO_68.out (fun k_ hk => (⟨hk, hk.2⟩ : _ ∧ k_ ≠ gb337))) (fun _ hk => hk.2) (.int .i64 ((rd_T57 x9_3 x70_4).f0))) (fun _ hk => hk.2) (.int .i64 ((rd_T57 x9_3 x70_4).f1.f0))) (fun _ hk => hk.2) (.int .i64 ((rd_T57 x9_3 x70_4).f1.f1))) (fun _ hk => hk.2) (.int .i64 ((rd_T57 x9_3 x70_4).f1.f2))) (fun _ hk => hk.2) (.slice A336_4 ((rd_T57 x9_3 x70_4).f1.f3).length c336_4)) (fun _ h_ => h_.1))) hb); replace HR336_4 := zA (Kd.C_below ((Kd.V_reads' (by (with_reducible repeat (first | apply Kd.V_alloc | apply Kd.V_drewN | apply Kd.V_drew)); exact (Kd.V_mono (Kd.V_far (p := ⟨gb337, 4, none⟩) (Kd.V_far (p := ⟨gb337, 3, none⟩) (Kd.V_far (p := ⟨gb337, 2, none⟩) (Kd.V_far (p := ⟨gb337, 1, none⟩) (Kd.V_far (p := ⟨gb337, 0, none⟩) (Kd.V_mono HL336_4.out (fun k_ hk => (⟨hk, hk.2⟩ : _ ∧ k_ ≠ gb337))) (fun _ hk => hk.2) (.int .i64 ((rd_T57 x9_3 x70_4).f0))) (fun _ hk => hk.2) (.int .i64 ((rd_T57 x9_3 x70_4).f1.f0))) (fun _ hk => hk.2) (.int .i64 ((rd_T57 x9_3 x70_4).f1.f1))) (fun _ hk => hk.2) (.int .i64 ((rd_T57 x9_3 x70_4).f1.f2))) (fun _ hk => hk.2) (.slice A336_4 ((rd_T57 x9_3 x70_4).f1.f3).length c336_4)) (fun _ h_ => h_.1)))).2.2) hb); replace HL336_4 := zA (Kd.V_below (by (with_reducible repeat (first | apply Kd.V_alloc | apply Kd.V_drewN | apply Kd.V_drew)); exact (Kd.V_mono (Kd.V_far (p := ⟨gb337, 4, none⟩) (Kd.V_far (p := ⟨gb337, 3, none⟩) (Kd.V_far (p := ⟨gb337, 2, none⟩) (Kd.V_far (p := ⟨gb337, 1, none⟩) (Kd.V_far (p := ⟨gb337, 0, none⟩) (Kd.V_mono HL336_4.out (fun k_ hk => (⟨hk, hk.2⟩ : _ ∧ k_ ≠ gb337))) (fun _ hk => hk.2) (.int .i64 ((rd_T57 x9_3 x70_4).f0))) (fun _ hk => hk.2) (.int .i64 ((rd_T57 x9_3 x70_4).f1.f0))) (fun _ hk => hk.2) (.int .i64 ((rd_T57 x9_3 x70_4).f1.f1))) (fun _ hk => hk.2) (.int .i64 ((rd_T57 x9_3 x70_4).f1.f2))) (fun _ hk => hk.2) (.slice A336_4 ((rd_T57 x9_3 x70_4).f1.f3).length c336_4)) (fun _ h_ => h_.1))) hb); replace BK337 := zA (blk_below (g := gb337) (o := .cells #[.int .i64 ((rd_T57 x9_3 x70_4).f0), .int .i64 ((rd_T57 x9_3 x70_4).f1.f0), .int .i64 ((rd_T57 x9_3 x70_4).f1.f1), .int .i64 ((rd_T57 x9_3 x70_4).f1.f2), .slice A336_4 ((rd_T57 x9_3 x70_4).f1.f3).length c336_4] 57 (0, 0)) (by (with_reducible repeat (first | refine blk_drewN ?_ _ | refine blk_drew ?_ | refine blk_alloc ?_ _)); refine blk_put (cs := #[.int .i64 ((rd_T57 x9_3 x70_4).f0), .int .i64 ((rd_T57 x9_3 x70_4).f1.f0), .int .i64 ((rd_T57 x9_3 x70_4).f1.f1), .int .i64 ((rd_T57 x9_3 x70_4).f1.f2), .slice none 0 0]) ?_ 4 _ rfl; (with_reducible repeat (first | refine blk_drewN ?_ _ | refine blk_drew ?_ | refine blk_alloc ?_ _)); refine blk_put (cs := #[.int .i64 ((rd_T57 x9_3 x70_4).f0), .int .i64 ((rd_T57 x9_3 x70_4).f1.f0), .int .i64 ((rd_T57 x9_3 x70_4).f1.f1), .int .i64 0, .slice none 0 0]) ?_ 3 _ rfl; (with_reducible repeat (first | refine blk_drewN ?_ _ | refine blk_drew ?_ | refine blk_alloc ?_ _)); refine blk_put (cs := #[.int .i64 ((rd_T57 x9_3 x70_4).f0), .int .i64 ((rd_T57 x9_3 x70_4).f1.f0), .int .i64 0, .int .i64 0, .slice none 0 0]) ?_ 2 _ rfl; (with_reducible repeat (first | refine blk_drewN ?_ _ | refine blk_drew ?_ | refine blk_alloc ?_ _)); refine blk_put (cs := #[.int .i64 ((rd_T57 x9_3 x70_4).f0), .int .i64 0, .int .i64 0, .int .i64 0, .slice none 0 0]) ?_ 1 _ rfl; (with_reducible repeat (first | refine blk_drewN ?_ _ | refine blk_drew ?_ | refine blk_alloc ?_ _)); refine blk_put (cs := #[.int .i64 0, .int .i64 0, .int .i64 0, .int .i64 0, .slice none 0 0]) ?_ 0 _ rfl; (with_reducible repeat (first | refine blk_drewN ?_ _ | refine blk_drew ?_ | refine blk_alloc ?_ _)); exact BK337.out) hb); replace HB := zh HB hb; (try clear hb)))
              go_roundg k4
              case measure => have := HJ3.out; have := HJ9.out; have := HK3.out; have := HK4.out; omega
              case rel => exact ⟨(wrap64 (x70_4 + 1)), zS, H', ⟨by have := HJ3.out; have := HJ9.out; have := HK3.out; have := HK4.out; omega⟩, ⟨by (with_reducible repeat (first | apply Kd.N_alloc | apply Kd.N_drewN | apply Kd.N_drew)); exact Kd.N_mono HO_9.out (fun _ hk => hk.1)⟩, ⟨by (with_reducible repeat (first | apply Kd.N_alloc | apply Kd.N_drewN | apply Kd.N_drew)); exact Kd.N_mono HO_68.out (fun _ hk => hk.1)⟩, ⟨zW HB.out⟩⟩
             ·replace c63 := Bool.eq_false_iff.mpr c63
              subst c63
              rw [if_neg zFT] at H
              simp only [Option.some.injEq, Prod.mk.injEq] at H
              obtain ⟨rfl, rfl⟩ := H
              have p336 : 0 ≤ (x70_4 : Int) := zD
              have q336 : x70_4 < (x9_3.length : Int) := zD
              obtain ⟨ad336, A336_4, c336_4, e336, hx336_0, hx336_1, hx336_2, hx336_3, hx336_4, hl336_4, hi336_4⟩ := at_T57 (Kd.N_reads' HO_68.out).2.2 x70_4 p336 q336
              cases e336
              obtain ⟨ce336, hce336, hMe336, hcc336⟩ := Kd.N_get HO_68.out z57 x70_4 p336 (by first | exact q336 | exact zD | (have e_ := (Kd.N_reads' HO_68.out).1; omega))
              obtain ⟨ua336_4, uc336_4, rfl, ul336_4, ge336_4⟩ := k57_openF hMe336
              have hv336_4 := hcc336 4 _ rfl
              rw [add_field _ _ 4 (by omega)] at hv336_4
              replace hv336_4 := Option.some.inj (hv336_4.symm.trans hx336_4)
              injection hv336_4 with hva_ hvn_ hvc_
              rw [hva_] at ge336_4
              rw [hvc_] at ul336_4
              have HL336_4 := zA (show Kd.V Kd.string 9 _ w.heap.size _ _ ((rd_T57 x9_3 x70_4).f1.f3) from Kd.V_mk ul336_4 ge336_4)
              clear hva_ hvn_ hvc_ ge336_4 ul336_4
              clear hcc336 hce336
              have HR336_4 := Aside0.mk hi336_4
              have HC336_4 := Aside0.mk hl336_4
              clear hi336_4 hl336_4
              replace p336 := eq_true p336
              replace q336 := eq_true q336
              go_wp2_with (first | ((with_reducible refine zd 15 ?_); refine ze 15 57 #[.int .i64 0, .int .i64 0, .int .i64 0, .int .i64 0, .slice none 0 0] ?_; intro gb337 hg w67 hbox hb; replace HO_9 := zA (Kd.N_below (Kd.N_elderB (zN HO_9.out) gb337 (Nat.le_of_eq hg.symm)) hb); replace HO_68 := zA (Kd.N_below (Kd.N_elderB (zN HO_68.out) gb337 (Nat.le_of_eq hg.symm)) hb); replace HL336_4 := zA (Kd.V_below (Kd.V_elderB (zV HL336_4.out) gb337 (Nat.le_of_eq hg.symm)) hb); replace HR336_4 := zA (Kd.C_below (by repeat (first | (with_reducible exact HR336_4.out) | (with_reducible refine Kd.C_alloc ?_ _) | (with_reducible refine Kd.C_drewN ?_ _) | (with_reducible refine Kd.C_drew ?_) | exact HR336_4.out)) hb); have BK337 := zA (hbox); have GW337 := zi HB hg; have GE337 := zi HB hg; replace HB := zA (below_step (zB) hb); clear hb hbox hg; obtain ⟨hcz68_0, hcz68_1, hcz68_2, hcz68_3, hcz68_4, hfz68_0, hfz68_1, hfz68_2, hfz68_3, hfz68_4⟩ := ze5 BK337.out) | ((with_reducible refine zq 14 ?_); refine zg (some 76) Tryd.func14 #[.agg #[.int .i64 ((rd_T57 x9_3 x70_4).f1.f0), .int .i64 ((rd_T57 x9_3 x70_4).f1.f1), .int .i64 ((rd_T57 x9_3 x70_4).f1.f2), .slice A336_4 ((rd_T57 x9_3 x70_4).f1.f3).length c336_4]] ?_; (with_reducible refine (impl_VerOk.calls k4 ((rd_T57 x9_3 x70_4).f1.f0) ((rd_T57 x9_3 x70_4).f1.f1) ((rd_T57 x9_3 x70_4).f1.f2) _ _ ((rd_T57 x9_3 x70_4).f1.f3) false _ ?side1 ?side2 A62.out).mono ?_); (case side1 => repeat (first | exact ((Kd.V_reads' (by (with_reducible repeat (first | apply Kd.V_alloc | apply Kd.V_drewN | apply Kd.V_drew)); exact (Kd.V_mono (Kd.V_far (p := ⟨gb337, 4, none⟩) (Kd.V_far (p := ⟨gb337, 3, none⟩) (Kd.V_far (p := ⟨gb337, 2, none⟩) (Kd.V_far (p := ⟨gb337, 1, none⟩) (Kd.V_far (p := ⟨gb337, 0, none⟩) (Kd.V_mono HL336_4.out (fun k_ hk => (⟨hk, hk.2⟩ : _ ∧ k_ ≠ gb337))) (fun _ hk => hk.2) (.int .i64 ((rd_T57 x9_3 x70_4).f0))) (fun _ hk => hk.2) (.int .i64 ((rd_T57 x9_3 x70_4).f1.f0))) (fun _ hk => hk.2) (.int .i64 ((rd_T57 x9_3 x70_4).f1.f1))) (fun _ hk => hk.2) (.int .i64 ((rd_T57 x9_3 x70_4).f1.f2))) (fun _ hk => hk.2) (.slice A336_4 ((rd_T57 x9_3 x70_4).f1.f3).length c336_4)) (fun _ h_ => h_.1)))).2.2) | (with_reducible refine Kd.C_alloc ?_ _) | (with_reducible refine Kd.C_drewN ?_ _) | (with_reducible refine Kd.C_drew ?_))); (case side2 => exact HC336_4.out); rintro e w69 ⟨rfl, hb⟩; refine ⟨_, rfl, ?_⟩; replace HO_9 := zA (Kd.N_below (by (with_reducible repeat (first | apply Kd.N_alloc | apply Kd.N_drewN | apply Kd.N_drew)); exact (Kd.N_mono (Kd.N_far (p := ⟨gb337, 4, none⟩) (Kd.N_far (p := ⟨gb337, 3, none⟩) (Kd.N_far (p := ⟨gb337, 2, none⟩) (Kd.N_far (p := ⟨gb337, 1, none⟩) (Kd.N_far (p := ⟨gb337, 0, none⟩) (Kd.N_mono HO_9.out (fun k_ hk => (⟨hk, hk.2⟩ : _ ∧ k_ ≠ gb337))) (fun _ hk => hk.2) (.int .i64 ((rd_T57 x9_3 x70_4).f0))) (fun _ hk => hk.2) (.int .i64 ((rd_T57 x9_3 x70_4).f1.f0))) (fun _ hk => hk.2) (.int .i64 ((rd_T57 x9_3 x70_4).f1.f1))) (fun _ hk => hk.2) (.int .i64 ((rd_T57 x9_3 x70_4).f1.f2))) (fun _ hk => hk.2) (.slice A336_4 ((rd_T57 x9_3 x70_4).f1.f3).length c336_4)) (fun _ h_ => h_.1))) hb); replace HO_68 := zA (Kd.N_below (by (with_reducible repeat (first | apply Kd.N_alloc | apply Kd.N_drewN | apply Kd.N_drew)); exact (Kd.N_mono (Kd.N_far (p := ⟨gb337, 4, none⟩) (Kd.N_far (p := ⟨gb337, 3, none⟩) (Kd.N_far (p := ⟨gb337, 2, none⟩) (Kd.N_far (p := ⟨gb337, 1, none⟩) (Kd.N_far (p := ⟨gb337, 0, none⟩) (Kd.N_mono HO_68.out (fun k_ hk => (⟨hk, hk.2⟩ : _ ∧ k_ ≠ gb337))) (fun _ hk => hk.2) (.int .i64 ((rd_T57 x9_3 x70_4).f0))) (fun _ hk => hk.2) (.int .i64 ((rd_T57 x9_3 x70_4).f1.f0))) (fun _ hk => hk.2) (.int .i64 ((rd_T57 x9_3 x70_4).f1.f1))) (fun _ hk => hk.2) (.int .i64 ((rd_T57 x9_3 x70_4).f1.f2))) (fun _ hk => hk.2) (.slice A336_4 ((rd_T57 x9_3 x70_4).f1.f3).length c336_4)) (fun _ h_ => h_.1))) hb); replace HR336_4 := zA (Kd.C_below ((Kd.V_reads' (by (with_reducible repeat (first | apply Kd.V_alloc | apply Kd.V_drewN | apply Kd.V_drew)); exact (Kd.V_mono (Kd.V_far (p := ⟨gb337, 4, none⟩) (Kd.V_far (p := ⟨gb337, 3, none⟩) (Kd.V_far (p := ⟨gb337, 2, none⟩) (Kd.V_far (p := ⟨gb337, 1, none⟩) (Kd.V_far (p := ⟨gb337, 0, none⟩) (Kd.V_mono HL336_4.out (fun k_ hk => (⟨hk, hk.2⟩ : _ ∧ k_ ≠ gb337))) (fun _ hk => hk.2) (.int .i64 ((rd_T57 x9_3 x70_4).f0))) (fun _ hk => hk.2) (.int .i64 ((rd_T57 x9_3 x70_4).f1.f0))) (fun _ hk => hk.2) (.int .i64 ((rd_T57 x9_3 x70_4).f1.f1))) (fun _ hk => hk.2) (.int .i64 ((rd_T57 x9_3 x70_4).f1.f2))) (fun _ hk => hk.2) (.slice A336_4 ((rd_T57 x9_3 x70_4).f1.f3).length c336_4)) (fun _ h_ => h_.1)))).2.2) hb); replace HL336_4 := zA (Kd.V_below (by (with_reducible repeat (first | apply Kd.V_alloc | apply Kd.V_drewN | apply Kd.V_drew)); exact (Kd.V_mono (Kd.V_far (p := ⟨gb337, 4, none⟩) (Kd.V_far (p := ⟨gb337, 3, none⟩) (Kd.V_far (p := ⟨gb337, 2, none⟩) (Kd.V_far (p := ⟨gb337, 1, none⟩) (Kd.V_far (p := ⟨gb337, 0, none⟩) (Kd.V_mono HL336_4.out (fun k_ hk => (⟨hk, hk.2⟩ : _ ∧ k_ ≠ gb337))) (fun _ hk => hk.2) (.int .i64 ((rd_T57 x9_3 x70_4).f0))) (fun _ hk => hk.2) (.int .i64 ((rd_T57 x9_3 x70_4).f1.f0))) (fun _ hk => hk.2) (.int .i64 ((rd_T57 x9_3 x70_4).f1.f1))) (fun _ hk => hk.2) (.int .i64 ((rd_T57 x9_3 x70_4).f1.f2))) (fun _ hk => hk.2) (.slice A336_4 ((rd_T57 x9_3 x70_4).f1.f3).length c336_4)) (fun _ h_ => h_.1))) hb); replace BK337 := zA (blk_below (g := gb337) (o := .cells #[.int .i64 ((rd_T57 x9_3 x70_4).f0), .int .i64 ((rd_T57 x9_3 x70_4).f1.f0), .int .i64 ((rd_T57 x9_3 x70_4).f1.f1), .int .i64 ((rd_T57 x9_3 x70_4).f1.f2), .slice A336_4 ((rd_T57 x9_3 x70_4).f1.f3).length c336_4] 57 (0, 0)) (by (with_reducible repeat (first | refine blk_drewN ?_ _ | refine blk_drew ?_ | refine blk_alloc ?_ _)); refine blk_put (cs := #[.int .i64 ((rd_T57 x9_3 x70_4).f0), .int .i64 ((rd_T57 x9_3 x70_4).f1.f0), .int .i64 ((rd_T57 x9_3 x70_4).f1.f1), .int .i64 ((rd_T57 x9_3 x70_4).f1.f2), .slice none 0 0]) ?_ 4 _ rfl; (with_reducible repeat (first | refine blk_drewN ?_ _ | refine blk_drew ?_ | refine blk_alloc ?_ _)); refine blk_put (cs := #[.int .i64 ((rd_T57 x9_3 x70_4).f0), .int .i64 ((rd_T57 x9_3 x70_4).f1.f0), .int .i64 ((rd_T57 x9_3 x70_4).f1.f1), .int .i64 0, .slice none 0 0]) ?_ 3 _ rfl; (with_reducible repeat (first | refine blk_drewN ?_ _ | refine blk_drew ?_ | refine blk_alloc ?_ _)); refine blk_put (cs := #[.int .i64 ((rd_T57 x9_3 x70_4).f0), .int .i64 ((rd_T57 x9_3 x70_4).f1.f0), .int .i64 0, .int .i64 0, .slice none 0 0]) ?_ 2 _ rfl; (with_reducible repeat (first | refine blk_drewN ?_ _ | refine blk_drew ?_ | refine blk_alloc ?_ _)); refine blk_put (cs := #[.int .i64 ((rd_T57 x9_3 x70_4).f0), .int .i64 0, .int .i64 0, .int .i64 0, .slice none 0 0]) ?_ 1 _ rfl; (with_reducible repeat (first | refine blk_drewN ?_ _ | refine blk_drew ?_ | refine blk_alloc ?_ _)); refine blk_put (cs := #[.int .i64 0, .int .i64 0, .int .i64 0, .int .i64 0, .slice none 0 0]) ?_ 0 _ rfl; (with_reducible repeat (first | refine blk_drewN ?_ _ | refine blk_drew ?_ | refine blk_alloc ?_ _)); exact BK337.out) hb); replace HB := zh HB hb; (try clear hb)))
              go_ret2
              exact ⟨_, zE, by first | exact Kd.S_nil _ _ _ _ _ | exact Kd.N_nil _ _ _ _ _ | exact Kd.V_nil _ _ _ _ _ | exact Kd.Q_nil _ _ _ _ _ | exact Kd.R_nil _ _ _ _ _, zW HB.out⟩
            ·rw [if_neg c61] at H
             exact absurd H (by simp)
           ·rw [if_neg c60] at H
            exact absurd H (by simp)
          ·rw [if_neg c59] at H
           have c59b0 := decide_eq_false c59
           clear c59
           simp only [Option.some.injEq, Prod.mk.injEq] at H
           obtain ⟨rfl, rfl⟩ := H
           go_wp2
           go_ret2
           exact ⟨_, zE, by (with_reducible repeat (first | apply Kd.N_alloc | apply Kd.N_drewN | apply Kd.N_drew)); exact HO_9.out, zB⟩
end Go.Proofs.YtpcdhoeoefoeoaaDoor.PGA
