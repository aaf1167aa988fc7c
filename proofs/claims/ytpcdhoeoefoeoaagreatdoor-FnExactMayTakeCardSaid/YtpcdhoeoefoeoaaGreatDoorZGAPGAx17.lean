/- The walks of the functions that these laws reach, and what each comes to: printed by this session's program. -/
import Derived.Test.YtpcdhoeoefoeoaaGreatDoorZGAPGAx0
import Derived.Test.YtpcdhoeoefoeoaaGreatDoorZGAPGAx12
import Derived.Test.YtpcdhoeoefoeoaaGreatDoorZGAPGAx13
import Derived.Test.YtpcdhoeoefoeoaaGreatDoorZGAPGAx14
import Derived.Test.YtpcdhoeoefoeoaaGreatDoorZGAPGAx16
import Derived.Test.YtpcdhoeoefoeoaaGreatDoorZGASays
import Derived.Test.YtpcdhoeoefoeoaaGreatDoorZGARegN
import Derived.Test.YtpcdhoeoefoeoaaGreatDoorZGARegs
namespace Go.Proofs.YtpcdhoeoefoeoaaGreatDoor.PGA
open Go.RowKit YtpcdhoeoefoeoaaGreatDoorW.PrintWords YtpcdhoeoefoeoaaGreatDoorW.PrintLast YtpcdhoeoefoeoaaGreatDoorW.PrintMore
attribute [local go_sem high] Mine.str_gtr Mine.str_leq Mine.str_geq
attribute [local go_sem] max2_int min2_int max_two min_two max_three min_three max_four min_four   -- for this text's walks alone
set_option linter.unusedVariables false
set_option maxHeartbeats 8000000
set_option maxRecDepth 100000
set_option linter.unusedSimpArgs false
/-! ### impl_cmpsOf: function 129 -/
theorem impl_cmpsOf.drawn {w w' : World} (h : Drawn0 w w') : Below w.heap.size w w' := by
 obtain ⟨n_, e_⟩ := h.out
 rw [e_]
 exact pw_below_drewN (Below.refl _ _) n_
def impl_cmpsOf.signs : List ByteArray := [(⟨#[94]⟩ : ByteArray), (⟨#[126]⟩ : ByteArray), (⟨#[62, 61]⟩ : ByteArray), (⟨#[62]⟩ : ByteArray), (⟨#[60, 61]⟩ : ByteArray), (⟨#[60]⟩ : ByteArray), (⟨#[61]⟩ : ByteArray), (⟨#[]⟩ : ByteArray)]
def impl_cmpsOf.go (k : Nat) (a0 : ByteArray) : List ByteArray → Option ((List (S75)) × Bool)
 | [] => some ([], false)
 | g :: r => (strings_CutPrefix.f a0 g).bind fun t => if t.2 = true then (impl_partOf.f k t.1).bind fun p => if p.2.2.2.2.2 = true then (impl_wordCmps.f k g p.1 p.2.1 p.2.2.1 p.2.2.2.1 p.2.2.2.2.1).bind fun l => some (l, true) else some ([], false) else impl_cmpsOf.go k a0 r
def impl_cmpsOf.f (k : Nat) (a0 : ByteArray) : Option ((List (S75)) × Bool) := if a0.toList = ([42] : List UInt8) then some ([(⟨4, (⟨0, 0, 0, ([] : List ByteArray)⟩ : S32)⟩ : S75)], true) else impl_cmpsOf.go k a0 impl_cmpsOf.signs
theorem impl_cmpsOf.at (m : Nat) (hm : m < 8) : ∃ g, impl_cmpsOf.signs.drop m = g :: impl_cmpsOf.signs.drop (m + 1) ∧ ∀ W : World, (Instr.index 184 (.agg #[.string ⟨#[94]⟩, .string ⟨#[126]⟩, .string ⟨#[62, 61]⟩, .string ⟨#[62]⟩, .string ⟨#[60, 61]⟩, .string ⟨#[60]⟩, .string ⟨#[61]⟩, .string ⟨#[]⟩]) (.int .i64 (m : Int))).run Tryz.prog W = .ok (.string g) W := by
 match m, hm with
 | 0, _ => exact ⟨_, rfl, fun W => by kernel_rfl⟩
 | 1, _ => exact ⟨_, rfl, fun W => by kernel_rfl⟩
 | 2, _ => exact ⟨_, rfl, fun W => by kernel_rfl⟩
 | 3, _ => exact ⟨_, rfl, fun W => by kernel_rfl⟩
 | 4, _ => exact ⟨_, rfl, fun W => by kernel_rfl⟩
 | 5, _ => exact ⟨_, rfl, fun W => by kernel_rfl⟩
 | 6, _ => exact ⟨_, rfl, fun W => by kernel_rfl⟩
 | 7, _ => exact ⟨_, rfl, fun W => by kernel_rfl⟩
 | m + 8, h => omega
theorem impl_cmpsOf.calls (k : Nat) (a0 : ByteArray) (r1 : List (S75)) (r2 : Bool) (w : World) (hG : GW w) (h : impl_cmpsOf.f k a0 = some (r1, r2)) :
  Calls Tryz.prog 129 #[.string a0] w fun e w' => ∃ v0_ : Value, e = .returned (.tuple #[v0_, .bool r2]) ∧ Kd.N k75 75 w' w.heap.size (fun k_ => (w.heap.size ≤ k_)) v0_ r1 ∧ Below w.heap.size w w' := by
 have hu_ := Tryz.underlying32
 have hu2_ := Tryz.underlying75
 have HG := Aside0.mk hG
 have HB := zA (Below.refl w.heap.size w)
 clear hG
 unfold impl_cmpsOf.f at h
 by_cases c3 : a0.toList = ([42] : List UInt8)
 ·rw [if_pos c3] at h
  have c3b0 := beq_iff_eq.mpr c3
  clear c3
  simp only [Option.some.injEq, Prod.mk.injEq] at h
  obtain ⟨rfl, rfl⟩ := h
  go_enter Tryz.func129, Tryz.ntmps129
  go_wp2_with (first | ((with_reducible refine gate_dst (N := 14) rfl ?_); refine Kd.N_lit k75 _ 75 ?hg (N' := 14) ?hd (xs := ([(⟨4, (⟨0, 0, 0, ([] : List ByteArray)⟩ : S32)⟩ : S75)] : List (S75))) (inner := [.int .i64 4, .int .i64 0, .int .i64 0, .int .i64 0, .slice none 0 0]) (ok := (fun k_ => (w.heap.size ≤ k_))) ?hr ?hp (fun _ hk => hk) ((show ∀ k_, w.heap.size ≤ k_ → (fun k_ => (w.heap.size ≤ k_)) k_ from fun k_ hk => (Nat.le_trans (below_size (zW HB.out)) hk)) _ (Nat.le_refl _)) (Below.refl _ _) (Nat.le_refl _) (by simp) ?_; (case hd => rfl); (case hg => rfl); (case hr => first | (go_simp; done) | (go_simp; rfl)); (case hp => exact (Reps.c5 (show Kd.FK k75 _ _ (⟨4, (⟨0, 0, 0, ([] : List ByteArray)⟩ : S32)⟩ : S75) [.int .i64 4, .int .i64 0, .int .i64 0, .int .i64 0, .slice none 0 0] from (k75_mkF _ _ (⟨4, (⟨0, 0, 0, ([] : List ByteArray)⟩ : S32)⟩ : S75) (Nat.le_refl _) (Kd.F_nil _ _ _))) (Reps.none _ _))); intro v314 w4 ho5 hb hg_ hnew_; clear hg_ hnew_; have HN := zA (Kd.N_lower ho5 (below_size (zW HB.out))); replace HB := zh HB hb; clear hb ho5))
  go_ret2
  exact ⟨_, rfl, zN HN.out, zW HB.out⟩
 ·rw [if_neg c3] at h
  have c3b0 := beq_eq_false_iff_ne.mpr c3
  have REST := Aside0.mk h
  clear c3 h
  go_enter Tryz.func129, Tryz.ntmps129
  go_wp2
  go_loopg [16] 8 (fun gg s16 wr => ∃ m : Nat, m ≤ 8 ∧ 8 - m ≤ gg ∧ s16 = .int .i64 (m : Int) ∧ Aside0 (impl_cmpsOf.go k a0 (impl_cmpsOf.signs.drop m) = some (r1, r2)) ∧ Aside0 (Below w.heap.size w wr))
  case atStart => exact ⟨0, by omega, by omega, rfl, REST, ⟨zW HB.out⟩⟩
  case round =>
   clear REST HB
   obtain ⟨m, hm8, hmg, rfl, REST, HB⟩ := hrel
   have H := REST.out
   clear REST
   by_cases hm : m < 8
   ·obtain ⟨g, hdrop, hidx⟩ := impl_cmpsOf.at m hm
    rw [hdrop] at H
    have hlt : (m : Int) < 8 := by omega
    replace H : ((strings_CutPrefix.f a0 g).bind fun t => if t.2 = true then (impl_partOf.f k t.1).bind fun p => if p.2.2.2.2.2 = true then (impl_wordCmps.f k g p.1 p.2.1 p.2.2.1 p.2.2.2.1 p.2.2.2.2.1).bind fun l => some (l, true) else some ([], false) else impl_cmpsOf.go k a0 (impl_cmpsOf.signs.drop (m + 1))) = some (r1, r2) := H
    replace H := Option.bind_eq_some_iff.mp H
    obtain ⟨⟨rest, has⟩, ht, H⟩ := H
    have CP := Aside0.mk ht
    clear ht hdrop
    cases has with
    | false =>
     replace H : impl_cmpsOf.go k a0 (impl_cmpsOf.signs.drop (m + 1)) = some (r1, r2) := H
     have RST := Aside0.mk H
     clear H
     go_wp2_with (first
      | (go_at_call 167; (with_reducible refine (strings_CutPrefix.calls a0 g rest false _ CP.out).mono ?_); rintro e w2 ⟨rfl, hd⟩; replace HB := zA (below_step (zW HB.out) (impl_cmpsOf.drawn hd)); clear hd))
     go_roundg (8 - (m + 1))
     case measure => omega
     case rel => exact ⟨m + 1, by omega, by omega, by go_num, RST, ⟨zW HB.out⟩⟩
    | true =>
     replace H : ((impl_partOf.f k rest).bind fun p => if p.2.2.2.2.2 = true then (impl_wordCmps.f k g p.1 p.2.1 p.2.2.1 p.2.2.2.1 p.2.2.2.2.1).bind fun l => some (l, true) else some ([], false)) = some (r1, r2) := H
     replace H := Option.bind_eq_some_iff.mp H
     obtain ⟨⟨va, vb, vc, vl, told, ok⟩, hp, H⟩ := H
     have PO := Aside0.mk hp
     clear hp
     cases ok with
     | false =>
      replace H : some (([] : List (S75)), false) = some (r1, r2) := H
      simp only [Option.some.injEq, Prod.mk.injEq] at H
      obtain ⟨rfl, rfl⟩ := H
      go_wp2_with (first
       | (go_at_call 167; (with_reducible refine (strings_CutPrefix.calls a0 g rest true _ CP.out).mono ?_); rintro e w2 ⟨rfl, hd⟩; replace HB := zA (below_step (zW HB.out) (impl_cmpsOf.drawn hd)); clear hd)
       | (go_at_call 168; (with_reducible refine (impl_partOf.calls k rest va vb vc vl told false _ ?hgw PO.out).mono ?_); (case hgw => exact GW.below HG.out (zW HB.out)); rintro e w3 ⟨v3, rfl, ho, hb⟩; have n0_ := zA (below_step (zW HB.out) hb); have HP := zA (Kd.R_lower ho (below_size (zW HB.out))); clear HB; have HB := n0_; clear n0_ hb ho; obtain ⟨Ao, co, eo⟩ := Kd.R_slice HP.out; subst eo)
       | ((with_reducible refine zd 8 ?_); refine ze 8 32 #[.int .i64 0, .int .i64 0, .int .i64 0, .slice none 0 0] ?_; intro gv hg w4 hbox hb; have n0_ := zA (below_step (zW HB.out) hb); have n2_ := zA (Kd.R_types (Kd.R_below (zR HP.out) hb) hbox (by decide)); have BV := Aside0.mk hbox; have GV := zA ((by rw [hg]; exact below_size (zW HB.out)) : w.heap.size ≤ gv); clear HB HP; have HB := n0_; have HP := n2_; clear n0_ n2_ hb hbox hg; have hnv := trivial; have vc0 := zc0 BV.out; have vf0 := zF BV.out 0; have vc1 := zc1 BV.out; have vf1 := zF BV.out 1; have vc2 := zc2 BV.out; have vf2 := zF BV.out 2; have vc3 := zc3 BV.out; have vf3 := zF BV.out 3))
      go_ret2
      exact ⟨_, rfl, Kd.N_nil _ _ _ _ _, zW HB.out⟩
     | true =>
      replace H : ((impl_wordCmps.f k g va vb vc vl told).bind fun l => some (l, true)) = some (r1, r2) := H
      replace H := Option.bind_eq_some_iff.mp H
      obtain ⟨l, hl, H⟩ := H
      simp only [Option.some.injEq, Prod.mk.injEq] at H
      obtain ⟨rfl, rfl⟩ := H
      have WC := Aside0.mk hl
      clear hl
      go_wp2_with (first
       | (go_at_call 167; (with_reducible refine (strings_CutPrefix.calls a0 g rest true _ CP.out).mono ?_); rintro e w2 ⟨rfl, hd⟩; replace HB := zA (below_step (zW HB.out) (impl_cmpsOf.drawn hd)); clear hd)
       | (go_at_call 168; (with_reducible refine (impl_partOf.calls k rest va vb vc vl told true _ ?hgw PO.out).mono ?_); (case hgw => exact GW.below HG.out (zW HB.out)); rintro e w3 ⟨v3, rfl, ho, hb⟩; have n0_ := zA (below_step (zW HB.out) hb); have HP := zA (Kd.R_lower ho (below_size (zW HB.out))); clear HB; have HB := n0_; clear n0_ hb ho; obtain ⟨Ao, co, eo⟩ := Kd.R_slice HP.out; subst eo)
       | ((with_reducible refine zd 8 ?_); refine ze 8 32 #[.int .i64 0, .int .i64 0, .int .i64 0, .slice none 0 0] ?_; intro gv hg w4 hbox hb; have n0_ := zA (below_step (zW HB.out) hb); have n2_ := zA (Kd.R_types (Kd.R_below (zR HP.out) hb) hbox (by decide)); have BV := Aside0.mk hbox; have GV := zA ((by rw [hg]; exact below_size (zW HB.out)) : w.heap.size ≤ gv); clear HB HP; have HB := n0_; have HP := n2_; clear n0_ n2_ hb hbox hg; have hnv := trivial; have vc0 := zc0 BV.out; have vf0 := zF BV.out 0; have vc1 := zc1 BV.out; have vf1 := zF BV.out 1; have vc2 := zc2 BV.out; have vf2 := zF BV.out 2; have vc3 := zc3 BV.out; have vf3 := zF BV.out 3))
      (with_reducible refine (impl_wordCmps.calls k g va vb vc (fun k_ => w.heap.size ≤ k_) Ao co vl told l _ ?side1 WC.out).mono ?_)
      (case side1 => exact Kd.R_V (Kd.R_mono (Kd.R_bound (ok := fun k_ => True ∧ k_ ≠ gv) (by (with_reducible repeat (first | apply Kd.R_alloc | apply Kd.R_drewN | apply Kd.R_drew | refine Kd.R_far ?_ (fun _ hk => hk.2) _)); exact HP.out)) (fun k_ hk => hk.2.1)))
      rintro e w6 ⟨v6, rfl, ho, hb⟩
      have HN := zA (Kd.N_mono (ok' := fun k_ => (w.heap.size ≤ k_)) (Kd.N_lower ho (below_size (zW HB.out))) (fun k_ hk => hk.elim id (fun h_ => Nat.le_trans (below_size (zW HB.out)) h_)))
      replace HB := zh HB hb
      clear ho hb
      go_wp2
      go_ret2
      exact ⟨_, rfl, zN HN.out, zW HB.out⟩
   ·obtain rfl : m = 8 := by omega
    replace H : some (([] : List (S75)), false) = some (r1, r2) := H
    simp only [Option.some.injEq, Prod.mk.injEq] at H
    obtain ⟨rfl, rfl⟩ := H
    have hlt : ¬ (((8 : Nat) : Int) < 8) := by omega
    go_wp2
    go_ret2
    exact ⟨_, rfl, Kd.N_nil _ _ _ _ _, zW HB.out⟩
/-! ### impl_listOf: function 82 -/
mutual
def impl_listOf.j0 : Nat → List ByteArray → Bool → Option ((List (S75)) × Bool)
 | 0, _, _ => none
 | k + 1, x4, x27 => if x27 = true then (if 0 < (x4.length : Int) then ((impl_ParseVer.f k (rdOf ByteArray.empty x4 0)).bind fun bt581 => (if 2 < (x4.length : Int) then ((impl_ParseVer.f k (rdOf ByteArray.empty x4 2)).bind fun bt590 => ((some (([(⟨4, (⟨bt581.1, bt581.2.1, bt581.2.2.1, bt581.2.2.2.1⟩ : S32)⟩ : S75), (⟨2, (⟨bt590.1, bt590.2.1, bt590.2.2.1, bt590.2.2.2.1⟩ : S32)⟩ : S75)] : List (S75)) : List (S75))).bind fun y598 => (if bt581.2.2.2.2 = true then (some (y598, bt590.2.2.2.2)) else (some (y598, false))))) else (none))) else (none)) else (impl_listOf.j1 k x4)
def impl_listOf.j1 : Nat → List ByteArray → Option ((List (S75)) × Bool)
 | 0, _ => none
 | k + 1, x4 => impl_listOf.l0 k ([] : List (S75)) x4 (x4.length : Int) 0
def impl_listOf.l0 : Nat → List (S75) → List ByteArray → Int → Int → Option ((List (S75)) × Bool)
 | 0, _, _, _, _ => none
 | k + 1, x9, x51, x52, x53 => if x53 < x52 then (if 0 ≤ x53 then (if x53 < (x51.length : Int) then ((impl_cmpsOf.f k (rdOf ByteArray.empty x51 x53)).bind fun bt602 => (if bt602.2 = true then (if x9.length + bt602.1.length < 2513169434916 then (impl_listOf.l0 k (x9 ++ bt602.1) x51 x52 (wrap64 (x53 + 1))) else (none)) else (some (([] : List (S75)), false)))) else (none)) else (none)) else (impl_listOf.l1 k x9 x9 (x9.length : Int) 0)
def impl_listOf.l1 : Nat → List (S75) → List (S75) → Int → Int → Option ((List (S75)) × Bool)
 | 0, _, _, _, _ => none
 | k + 1, x9, x68, x69, x70 => if x70 < x69 then (if 0 ≤ x70 then (if x70 < (x68.length : Int) then ((impl_VerOk.f k ((rd_T75 x68 x70).f1.f0) ((rd_T75 x68 x70).f1.f1) ((rd_T75 x68 x70).f1.f2) ((rd_T75 x68 x70).f1.f3)).bind fun t611 => (if t611 = true then (impl_listOf.l1 k x9 x68 x69 (wrap64 (x70 + 1))) else (some (([] : List (S75)), false)))) else (none)) else (none)) else (some (x9, decide ((x9.length : Int) ≤ 4)))
end
def impl_listOf.f (k : Nat) (a0 : ByteArray) : Option ((List (S75)) × Bool) := (strings_Trim.f a0 (⟨#[32]⟩ : ByteArray)).bind fun t575 => ((strings_Split.f t575 (⟨#[32]⟩ : ByteArray)).bind fun t576 => (if (t576.length : Int) = 3 then (if 1 < (t576.length : Int) then (impl_listOf.j0 k t576 ((rdOf ByteArray.empty t576 1).toList == ([45] : List UInt8))) else (none)) else (impl_listOf.j0 k t576 false)))
theorem impl_listOf.calls (k : Nat) (a0 : ByteArray) (r1 : List (S75)) (r2 : Bool) (w : World) (hG : GW w) (h : impl_listOf.f k a0 = some (r1, r2)) :
  Calls Tryz.prog 82 #[.string a0] w fun e w' => ∃ v0_ : Value, e = .returned (.tuple #[v0_, .bool r2]) ∧ Kd.N k75 75 w' w.heap.size (fun k_ => (w.heap.size ≤ k_)) v0_ r1 ∧ Below w.heap.size w w' := by
 have hu32 := Tryz.underlying32
 have hu75 := Tryz.underlying75
 have HG := Aside0.mk hG
 clear hG
 have HB := zA (Below.refl w.heap.size w)
 unfold impl_listOf.f at h
 have H := h
 clear h
 replace H := zj H
 obtain ⟨t575, A2, H⟩ := H
 try dsimp only at H
 replace H := zj H
 obtain ⟨t576, A3, H⟩ := H
 try dsimp only at H
 have HC4 := Aside0.mk H
 clear H
 go_enter Tryz.func82, Tryz.ntmps82
 go_upto_region 2 with (first | ((with_reducible refine zq 127 ?_); refine zg (some 17) Tryz.func127 #[.string a0, .string (⟨#[32]⟩ : ByteArray)] ?_; (with_reducible refine (strings_Trim.calls a0 (⟨#[32]⟩ : ByteArray) t575 _ A2.out).mono ?_); rintro e w' ⟨rfl, ⟨nd, rfl⟩⟩; refine ⟨_, rfl, ?_⟩) | ((with_reducible refine zq 81 ?_); refine zg (some 18) Tryz.func81 #[.string t575, .string (⟨#[32]⟩ : ByteArray)] ?_; (with_reducible refine (strings_Split.calls t575 (⟨#[32]⟩ : ByteArray) t576 _ ?side1 A3.out).mono ?_); (case side1 => exact GW.below HG.out (zB)); rintro e w5 ⟨v577, rfl, ho0, hb⟩; refine ⟨_, rfl, ?_⟩; have HO578 := zA (Kd.R_lower (Kd.R_newM (M := fun k_ => (w.heap.size ≤ k_)) ho0 (below_size (zB)) (fun k_ h_ => h_)) (below_size (zB))); replace HB := zA (below_step (zB) hb); (try clear hb ho0)))
 (try simp only [Act.put, zT])
 go_cut [27] (fun v27 wc => ∃ (kq : Nat) (x27_3 : Bool), v27 = .bool x27_3 ∧ Aside0 (impl_listOf.j0 kq t576 x27_3 = some (r1, r2)) ∧ Aside0 (kq ≤ k) ∧ Aside0 (Kd.R Kd.string 9 wc w.heap.size (fun k_ => (w.heap.size ≤ k_)) v577 t576) ∧ Aside0 (Below w.heap.size w wc))
 case first =>
  have H := HC4.out
  clear HC4
  replace H := zI1 H
  rcases H with ⟨c6, H⟩ | ⟨c6, H⟩
  ·have c6b0 := beq_iff_eq.mpr c6
   have c6b1 := bne_eq_false_iff_eq.mpr c6
   clear c6
   (first | rw [c6b0] | (simp only [i64_w, i32_w]; rw [c6b0]) | skip)
   replace H := zC0 H
   obtain ⟨c7, H⟩ := H
   have c7b0 := decide_eq_true c7
   have c7b1 : decide (1 < t576.length) = true := decide_eq_true (by omega)
   clear c7
   have H' := Aside0.mk H
   clear H
   obtain ⟨Ao8, co8, eo8⟩ := Kd.R_slice HO578.out
   subst eo8
   have p579 : 0 ≤ (1 : Int) := (by omega)
   have q579 : 1 < (t576.length : Int) := zD
   obtain ⟨ad579, e579, hx579_0⟩ := Kd.at_string (Kd.R_reads' HO578.out).2.2 1 p579 q579
   cases e579
   (try simp only [show (1 : Int).toNat = 1 from rfl, Nat.reduceMul, Nat.reduceEqDiff, Go.Addr.add, ↓reduceIte] at hx579_0)
   have qi579 : (1 < t576.length) = True := eq_true (by omega)
   (try rw [show ((1 : Int)).toNat = 1 from rfl] at hx579_0)
   replace p579 := eq_true p579
   replace q579 := eq_true q579
   go_wp2
   go_meet
   case rel => exact ⟨_, (((rdOf ByteArray.empty t576 1).toList == ([45] : List UInt8))), zS, (by first | exact H' | (subst_vars; exact H')), ⟨by first | omega | exact Nat.le_refl _⟩, ⟨zR (Kd.R_mono HO578.out (fun _ hk => hk.1))⟩, ⟨zB⟩⟩
  ·have c6b0 := beq_eq_false_iff_ne.mpr c6
   have c6b1 := bne_iff_ne.mpr c6
   (first | rw [c6b0] | (simp only [i64_w, i32_w]; rw [c6b0]) | skip)
   have H' := Aside0.mk H
   clear H
   obtain ⟨Ao9, co9, eo9⟩ := Kd.R_slice HO578.out
   subst eo9
   go_wp2
   go_meet
   case rel => exact ⟨_, (false), zS, (by first | exact H' | (subst_vars; exact H')), ⟨by first | omega | exact Nat.le_refl _⟩, ⟨zR (Kd.R_mono HO578.out (fun _ hk => hk.1))⟩, ⟨zB⟩⟩
 case rest =>
  clear HC4
  try clear c1
  try clear p2
  try clear p5
  try clear q5
  try clear hx5
  try clear qi5
  try clear c6
  try clear c6b0
  try clear c6b1
  try clear c7
  try clear c7b0
  try clear c7b1
  try clear c8
  try clear hx579_0
  try clear p579
  try clear q579
  obtain ⟨kq, x27_3, rfl, HA, HJ3, HO_4, HB⟩ := hcut
  cases kq with
  | zero => exact absurd HA.out (by simp [impl_listOf.j0])
  | succ kj3 =>
   have H := HA.out
   clear HA
   simp only [impl_listOf.j0] at H
   have HC10 := Aside0.mk H
   clear H
   go_upto_if 27 with (fail)
   go_cut [] (fun wc => ∃ (kq : Nat), Aside0 (impl_listOf.j1 kq t576 = some (r1, r2)) ∧ Aside0 (kq ≤ kj3) ∧ Aside0 (Kd.R Kd.string 9 wc w.heap.size (fun k_ => (w.heap.size ≤ k_)) v577 t576) ∧ Aside0 (Below w.heap.size w wc))
   case first =>
    have H := HC10.out
    clear HC10
    replace H := zB0 H
    rcases H with ⟨rfl, H⟩ | ⟨rfl, H⟩
    ·replace H := zC0 H
     obtain ⟨c12, H⟩ := H
     have c12b0 := decide_eq_true c12
     have c12b1 : decide (0 < t576.length) = true := decide_eq_true (by omega)
     clear c12
     (first | rw [c12b0] | (simp only [i64_w, i32_w]; rw [c12b0]) | skip)
     replace H := zj H
     obtain ⟨⟨t581, t582, t583, t584, t587⟩, A13, H⟩ := H
     try dsimp only at H
     replace H := zC0 H
     obtain ⟨c14, H⟩ := H
     have c14b0 := decide_eq_true c14
     have c14b1 : decide (2 < t576.length) = true := decide_eq_true (by omega)
     clear c14
     replace H := zj H
     obtain ⟨⟨t590, t591, t592, t593, t596⟩, A15, H⟩ := H
     try dsimp only at H
     obtain ⟨y598, hy598⟩ : ∃ y_ : List (S75), y_ = (([(⟨4, (⟨t581, t582, t583, t584⟩ : S32)⟩ : S75), (⟨2, (⟨t590, t591, t592, t593⟩ : S32)⟩ : S75)] : List (S75))) := ⟨_, rfl⟩
     replace H : (if t587 = true then (some (y598, t596)) else (some (y598, false))) = some (r1, r2) := zY hy598 H
     have Ny598 := Aside0.mk hy598
     clear hy598
     replace H := zB0 H
     rcases H with ⟨rfl, H⟩ | ⟨rfl, H⟩
     ·simp only [Option.some.injEq, Prod.mk.injEq] at H
      obtain ⟨rfl, rfl⟩ := H
      obtain ⟨Ao17, co17, eo17⟩ := Kd.R_slice HO_4.out
      subst eo17
      have p580 : 0 ≤ (0 : Int) := (by omega)
      have q580 : 0 < (t576.length : Int) := zD
      obtain ⟨ad580, e580, hx580_0⟩ := Kd.at_string (Kd.R_reads' HO_4.out).2.2 0 p580 q580
      cases e580
      have qi580 : (0 < t576.length) = True := eq_true (by omega)
      (try rw [show ((0 : Int)).toNat = 0 from rfl] at hx580_0)
      (try rw [Addr.add_zero'] at hx580_0)
      replace p580 := eq_true p580
      replace q580 := eq_true q580
      go_wp2_with (first | ((with_reducible refine zq 128 ?_); refine zg (some 32) Tryz.func128 #[.string (rdOf ByteArray.empty t576 0)] ?_; (with_reducible refine (impl_ParseVer.calls kj3 (rdOf ByteArray.empty t576 0) t581 t582 t583 t584 true _ ?side1 A13.out).mono ?_); (case side1 => exact GW.below HG.out (zB)); rintro e w18 ⟨v585, rfl, ho0, hb⟩; refine ⟨_, rfl, ?_⟩; have HO586 := zA (Kd.R_lower (Kd.R_new' (Kd.R_newM (M := fun k_ => (w.heap.size ≤ k_)) ho0 (below_size (zB)) (fun k_ h_ => h_)) (Kd.R_lt (zR HO_4.out))) (below_size (zB))); replace HO_4 := zA (Kd.R_elder' (zR HO_4.out) (Kd.R_base ho0) hb); replace HB := zA (below_step (zB) hb); (try clear hb ho0)) | ((with_reducible refine zd 5 ?_); refine ze 5 32 #[.int .i64 0, .int .i64 0, .int .i64 0, .slice none 0 0] ?_; intro gb588 hg w19 hbox hb; replace HO_4 := zr HO_4 hb; replace HO586 := zr HO586 hb; have BK588 := zA (hbox); have GW588 := zi HB hg; have GE588 := zi HB hg; replace HB := zA (below_step (zB) hb); clear hb hbox hg; obtain ⟨hcz20_0, hcz20_1, hcz20_2, hcz20_3, hfz20_0, hfz20_1, hfz20_2, hfz20_3⟩ := ze4 BK588.out; obtain ⟨Ao21, co21, eo21⟩ := Kd.R_slice HO586.out; subst eo21; have p589 : 0 ≤ (2 : Int) := (by omega); have q589 : 2 < (t576.length : Int) := zD; obtain ⟨ad589, e589, hx589_0⟩ := Kd.at_string (Kd.R_reads' HO_4.out).2.2 2 p589 q589; obtain rfl : ad580 = ad589 := (by injection e589); (try simp only [show (2 : Int).toNat = 2 from rfl, Nat.reduceMul, Nat.reduceEqDiff, Go.Addr.add, ↓reduceIte] at hx589_0); have qi589 : (2 < t576.length) = True := eq_true (by omega); (try rw [show ((2 : Int)).toNat = 2 from rfl] at hx589_0); have hn589_0 : ad580.block ≠ gb588 := Kd.own_blk (Kd.R_ne HO_4.out BK588.out (by decide)); have hn589_1 : ad580.block ≠ gb588 := Kd.own_blk (Kd.R_ne HO_4.out BK588.out (by decide)); have hn589_2 : ad580.block ≠ gb588 := Kd.own_blk (Kd.R_ne HO_4.out BK588.out (by decide)); have hn589_3 : ad580.block ≠ gb588 := Kd.own_blk (Kd.R_ne HO_4.out BK588.out (by decide)); replace hx589_0 := (cell_far (p := ⟨gb588, 0, none⟩) (by first | (rw [add_block]; exact hn589_0) | (show (Addr.add _ _).block ≠ _; rw [add_block]; exact hn589_0) | exact hn589_0) (.int .i64 t581)).trans hx589_0; replace hx589_0 := (cell_far (p := ⟨gb588, 1, none⟩) (by first | (rw [add_block]; exact hn589_1) | (show (Addr.add _ _).block ≠ _; rw [add_block]; exact hn589_1) | exact hn589_1) (.int .i64 t582)).trans hx589_0; replace hx589_0 := (cell_far (p := ⟨gb588, 2, none⟩) (by first | (rw [add_block]; exact hn589_2) | (show (Addr.add _ _).block ≠ _; rw [add_block]; exact hn589_2) | exact hn589_2) (.int .i64 t583)).trans hx589_0; replace hx589_0 := (cell_far (p := ⟨gb588, 3, none⟩) (by first | (rw [add_block]; exact hn589_3) | (show (Addr.add _ _).block ≠ _; rw [add_block]; exact hn589_3) | exact hn589_3) (.slice Ao21 t584.length co21)).trans hx589_0; clear hn589_0; clear hn589_1; clear hn589_2; clear hn589_3; replace p589 := eq_true p589; replace q589 := eq_true q589) | ((with_reducible refine zq 128 ?_); refine zg (some 39) Tryz.func128 #[.string (rdOf ByteArray.empty t576 2)] ?_; (with_reducible refine (impl_ParseVer.calls kj3 (rdOf ByteArray.empty t576 2) t590 t591 t592 t593 t596 _ ?side1 A15.out).mono ?_); (case side1 => exact GW.below HG.out (zW HB.out)); rintro e w22 ⟨v594, rfl, ho0, hb⟩; refine ⟨_, rfl, ?_⟩; have HO595 := zA (Kd.R_lower (Kd.R_new' (Kd.R_new' (Kd.R_newM (M := fun k_ => (w.heap.size ≤ k_)) ho0 (below_size (zW HB.out)) (fun k_ h_ => h_)) (Kd.R_lt (zR (zr4 HO_4.out BK588.out)))) (Kd.R_lt (zR (zr4 HO586.out BK588.out)))) (below_size (zW HB.out))); replace HO_4 := zA (Kd.R_elder' (zR (zr4 HO_4.out BK588.out)) (Kd.R_base ho0) hb); replace HO586 := zA (Kd.R_elder' (zR (zr4 HO586.out BK588.out)) (Kd.R_base ho0) hb); replace BK588 := zA (blk_below (zk4 BK588.out) hb); replace HB := zh HB hb; (try clear hb ho0)) | ((with_reducible refine zd 7 ?_); refine ze 7 32 #[.int .i64 0, .int .i64 0, .int .i64 0, .slice none 0 0] ?_; intro gb597 hg w23 hbox hb; replace HO_4 := zr HO_4 hb; replace HO586 := zr HO586 hb; replace HO595 := zr HO595 hb; have BK597 := zA (hbox); have GW597 := zi HB hg; have GE597 := zi HB hg; replace HB := zh HB hb; have NB588_597 := zA (zL hg (zK BK588.out)); have NB597_588 := zA (zJ hg (zK BK588.out)); replace BK588 := zb BK588 hb; clear hb hbox hg; have hnb24 := NB597_588.out; have hnc24 := NB588_597.out; obtain ⟨hcz25_0, hcz25_1, hcz25_2, hcz25_3, hfz25_0, hfz25_1, hfz25_2, hfz25_3⟩ := ze4 BK597.out; obtain ⟨Ao26, co26, eo26⟩ := Kd.R_slice HO595.out; subst eo26) | ((with_reducible refine gate_store (t := 32) (p := 7) rfl ?_); refine store_event (t := 32) (p := 7) (v := ?vo_w27) (w1 := ((((w23.setCell ⟨gb597, 0, none⟩ (.int .i64 t590)).setCell ⟨gb597, 1, none⟩ (.int .i64 t591)).setCell ⟨gb597, 2, none⟩ (.int .i64 t592)).setCell ⟨gb597, 3, none⟩ (.slice Ao26 t593.length co26))) ?hg ?ho ?hn ?hr ?_; (case ho => rfl); (case hg => rfl); (case hn => rfl); (case hr => first | (go_simp; done) | (go_simp; rfl)); intro w27 hw; have n0_ : Aside0 (Kd.R Kd.string 9 w27 w.heap.size (fun k_ => (w.heap.size ≤ k_) ∧ some k_ ≠ (.slice Ao21 t584.length co21 : Value).ownBlock ∧ some k_ ≠ (.slice Ao26 t593.length co26 : Value).ownBlock) (.slice (some ad580) t576.length co17) t576) := ⟨(by rw [hw]; exact (zR (Kd.R_mono (zr4 HO_4.out BK597.out) (fun _ hk => ⟨hk.1.1, ⟨hk.1.2, hk.2⟩⟩))))⟩; have n1_ : Aside0 (Kd.R Kd.string 9 w27 w.heap.size (fun k_ => (w.heap.size ≤ k_) ∧ some k_ ≠ (.slice (some ad580) t576.length co17 : Value).ownBlock ∧ some k_ ≠ (.slice Ao26 t593.length co26 : Value).ownBlock) (.slice Ao21 t584.length co21) t584) := ⟨(by rw [hw]; exact (zR (Kd.R_mono (zr4 HO586.out BK597.out) (fun _ hk => ⟨hk.1.1.1, ⟨hk.1.2, hk.2⟩⟩))))⟩; have n2_ : Aside0 (Kd.R Kd.string 9 w27 w.heap.size (fun k_ => (w.heap.size ≤ k_) ∧ some k_ ≠ (.slice (some ad580) t576.length co17 : Value).ownBlock ∧ some k_ ≠ (.slice Ao21 t584.length co21 : Value).ownBlock) (.slice Ao26 t593.length co26) t593) := ⟨(by rw [hw]; exact (zR (Kd.R_mono (zr4 HO595.out BK597.out) (fun _ hk => ⟨hk.1.1.1, ⟨hk.1.2, hk.2⟩⟩))))⟩; have n3_ := zA (zh1 hw (zK BK588.out)); have n4_ := zA (zh1 hw (zk4 BK597.out)); have n5_ := zA (zh2 hw (zW HB.out)); clear hw; clear HO_4; clear HO586; clear HO595; clear BK588; clear BK597; clear HB; have HO_4 := n0_; have HO586 := n1_; have HO595 := n2_; have BK588 := n3_; have BK597 := n4_; have HB := n5_; clear n0_ n1_ n2_ n3_ n4_ n5_; obtain ⟨hcz28_0, hcz28_1, hcz28_2, hcz28_3, hfz28_0, hfz28_1, hfz28_2, hfz28_3⟩ := ze4 BK588.out; obtain ⟨hcz29_0, hcz29_1, hcz29_2, hcz29_3, hfz29_0, hfz29_1, hfz29_2, hfz29_3⟩ := ze4 BK597.out) | ((with_reducible refine gate_dst (N := 46) rfl ?_); refine Kd.N_lit k75 _ 75 ?hg (N' := 46) ?hd (xs := ([(⟨4, (⟨t581, t582, t583, t584⟩ : S32)⟩ : S75), (⟨2, (⟨t590, t591, t592, t593⟩ : S32)⟩ : S75)] : List (S75))) (inner := [.int .i64 4, .int .i64 t581, .int .i64 t582, .int .i64 t583, .slice Ao21 t584.length co21, .int .i64 2, .int .i64 t590, .int .i64 t591, .int .i64 t592, .slice Ao26 t593.length co26]) (ok := (fun k_ => (w.heap.size ≤ k_) ∧ some k_ ≠ (.slice (some ad580) t576.length co17 : Value).ownBlock ∧ k_ ≠ gb588 ∧ k_ ≠ gb597)) ?hr ?hp (fun _ hk => hk) ((show ∀ k_, w27.heap.size ≤ k_ → (fun k_ => (w.heap.size ≤ k_) ∧ some k_ ≠ (.slice (some ad580) t576.length co17 : Value).ownBlock ∧ k_ ≠ gb588 ∧ k_ ≠ gb597) k_ from fun k_ hk => ⟨(Nat.le_trans (below_size (zW HB.out)) hk), Kd.fresh' (Kd.R_lt (zR HO_4.out)) k_ hk, Kd.freshB (g := gb588) (o := .cells #[.int .i64 t581, .int .i64 t582, .int .i64 t583, .slice Ao21 t584.length co21] 32 (0, 0)) (zK BK588.out) k_ hk, Kd.freshB (g := gb597) (o := .cells #[.int .i64 t590, .int .i64 t591, .int .i64 t592, .slice Ao26 t593.length co26] 32 (0, 0)) (zK BK597.out) k_ hk⟩) _ (Nat.le_refl _)) (Below.refl _ _) (Nat.le_refl _) (by simp) ?_; (case hd => rfl); (case hg => rfl); (case hr => first | (go_simp; done) | (go_simp; rfl)); (case hp => exact (Reps.c5 (show Kd.FK k75 _ _ (⟨4, (⟨t581, t582, t583, t584⟩ : S32)⟩ : S75) [.int .i64 4, .int .i64 t581, .int .i64 t582, .int .i64 t583, .slice Ao21 t584.length co21] from (k75_mkF _ _ (⟨4, (⟨t581, t582, t583, t584⟩ : S32)⟩ : S75) (Kd.R_reads' (Kd.R_mono (ok' := (fun k_ => (w.heap.size ≤ k_) ∧ some k_ ≠ (.slice (some ad580) t576.length co17 : Value).ownBlock ∧ k_ ≠ gb588 ∧ k_ ≠ gb597)) (Kd.R_types (Kd.R_types (HO586.out) BK588.out (by decide)) BK597.out (by decide)) (fun k_ hk => ⟨hk.1.1.1, ⟨hk.1.1.2.1, ⟨hk.1.2, hk.2⟩⟩⟩))).2.1 (Kd.R_F (Kd.R_mono (ok' := (fun k_ => (w.heap.size ≤ k_) ∧ some k_ ≠ (.slice (some ad580) t576.length co17 : Value).ownBlock ∧ k_ ≠ gb588 ∧ k_ ≠ gb597)) (Kd.R_types (Kd.R_types (HO586.out) BK588.out (by decide)) BK597.out (by decide)) (fun k_ hk => ⟨hk.1.1.1, ⟨hk.1.1.2.1, ⟨hk.1.2, hk.2⟩⟩⟩))))) (Reps.c5 (show Kd.FK k75 _ _ (⟨2, (⟨t590, t591, t592, t593⟩ : S32)⟩ : S75) [.int .i64 2, .int .i64 t590, .int .i64 t591, .int .i64 t592, .slice Ao26 t593.length co26] from (k75_mkF _ _ (⟨2, (⟨t590, t591, t592, t593⟩ : S32)⟩ : S75) (Kd.R_reads' (Kd.R_mono (ok' := (fun k_ => (w.heap.size ≤ k_) ∧ some k_ ≠ (.slice (some ad580) t576.length co17 : Value).ownBlock ∧ k_ ≠ gb588 ∧ k_ ≠ gb597)) (Kd.R_types (Kd.R_types (HO595.out) BK588.out (by decide)) BK597.out (by decide)) (fun k_ hk => ⟨hk.1.1.1, ⟨hk.1.1.2.1, ⟨hk.1.2, hk.2⟩⟩⟩))).2.1 (Kd.R_F (Kd.R_mono (ok' := (fun k_ => (w.heap.size ≤ k_) ∧ some k_ ≠ (.slice (some ad580) t576.length co17 : Value).ownBlock ∧ k_ ≠ gb588 ∧ k_ ≠ gb597)) (Kd.R_types (Kd.R_types (HO595.out) BK588.out (by decide)) BK597.out (by decide)) (fun k_ hk => ⟨hk.1.1.1, ⟨hk.1.1.2.1, ⟨hk.1.2, hk.2⟩⟩⟩))))) (Reps.none _ _)))); intro v599 w30 ho31 hb hg_ hnew_; clear hg_ hnew_; (first | rw [← Ny598.out] at ho31 | (simp only [Int.reduceToNat] at ho31; rw [← Ny598.out] at ho31)); replace HO_4 := zr HO_4 hb; have HO600 := zA (Kd.N_lower ho31 (below_size (zW HB.out))); replace BK588 := zb BK588 hb; replace BK597 := zb BK597 hb; replace HB := zh HB hb; clear HO586 HO595; clear hb ho31))
      go_ret2
      exact ⟨_, zE, zNt (Kd.N_mono HO600.out (fun _ hk => hk.1)), zW HB.out⟩
     ·simp only [Option.some.injEq, Prod.mk.injEq] at H
      obtain ⟨rfl, rfl⟩ := H
      obtain ⟨Ao32, co32, eo32⟩ := Kd.R_slice HO_4.out
      subst eo32
      have p580 : 0 ≤ (0 : Int) := (by omega)
      have q580 : 0 < (t576.length : Int) := zD
      obtain ⟨ad580, e580, hx580_0⟩ := Kd.at_string (Kd.R_reads' HO_4.out).2.2 0 p580 q580
      cases e580
      have qi580 : (0 < t576.length) = True := eq_true (by omega)
      (try rw [show ((0 : Int)).toNat = 0 from rfl] at hx580_0)
      (try rw [Addr.add_zero'] at hx580_0)
      replace p580 := eq_true p580
      replace q580 := eq_true q580
      go_wp2_with (first | ((with_reducible refine zq 128 ?_); refine zg (some 32) Tryz.func128 #[.string (rdOf ByteArray.empty t576 0)] ?_; (with_reducible refine (impl_ParseVer.calls kj3 (rdOf ByteArray.empty t576 0) t581 t582 t583 t584 false _ ?side1 A13.out).mono ?_); (case side1 => exact GW.below HG.out (zB)); rintro e w33 ⟨v585, rfl, ho0, hb⟩; refine ⟨_, rfl, ?_⟩; have HO586 := zA (Kd.R_lower (Kd.R_new' (Kd.R_newM (M := fun k_ => (w.heap.size ≤ k_)) ho0 (below_size (zB)) (fun k_ h_ => h_)) (Kd.R_lt (zR HO_4.out))) (below_size (zB))); replace HO_4 := zA (Kd.R_elder' (zR HO_4.out) (Kd.R_base ho0) hb); replace HB := zA (below_step (zB) hb); (try clear hb ho0)) | ((with_reducible refine zd 5 ?_); refine ze 5 32 #[.int .i64 0, .int .i64 0, .int .i64 0, .slice none 0 0] ?_; intro gb588 hg w34 hbox hb; replace HO_4 := zr HO_4 hb; replace HO586 := zr HO586 hb; have BK588 := zA (hbox); have GW588 := zi HB hg; have GE588 := zi HB hg; replace HB := zA (below_step (zB) hb); clear hb hbox hg; obtain ⟨hcz35_0, hcz35_1, hcz35_2, hcz35_3, hfz35_0, hfz35_1, hfz35_2, hfz35_3⟩ := ze4 BK588.out; obtain ⟨Ao36, co36, eo36⟩ := Kd.R_slice HO586.out; subst eo36; have p589 : 0 ≤ (2 : Int) := (by omega); have q589 : 2 < (t576.length : Int) := zD; obtain ⟨ad589, e589, hx589_0⟩ := Kd.at_string (Kd.R_reads' HO_4.out).2.2 2 p589 q589; obtain rfl : ad580 = ad589 := (by injection e589); (try simp only [show (2 : Int).toNat = 2 from rfl, Nat.reduceMul, Nat.reduceEqDiff, Go.Addr.add, ↓reduceIte] at hx589_0); have qi589 : (2 < t576.length) = True := eq_true (by omega); (try rw [show ((2 : Int)).toNat = 2 from rfl] at hx589_0); have hn589_0 : ad580.block ≠ gb588 := Kd.own_blk (Kd.R_ne HO_4.out BK588.out (by decide)); have hn589_1 : ad580.block ≠ gb588 := Kd.own_blk (Kd.R_ne HO_4.out BK588.out (by decide)); have hn589_2 : ad580.block ≠ gb588 := Kd.own_blk (Kd.R_ne HO_4.out BK588.out (by decide)); have hn589_3 : ad580.block ≠ gb588 := Kd.own_blk (Kd.R_ne HO_4.out BK588.out (by decide)); replace hx589_0 := (cell_far (p := ⟨gb588, 0, none⟩) (by first | (rw [add_block]; exact hn589_0) | (show (Addr.add _ _).block ≠ _; rw [add_block]; exact hn589_0) | exact hn589_0) (.int .i64 t581)).trans hx589_0; replace hx589_0 := (cell_far (p := ⟨gb588, 1, none⟩) (by first | (rw [add_block]; exact hn589_1) | (show (Addr.add _ _).block ≠ _; rw [add_block]; exact hn589_1) | exact hn589_1) (.int .i64 t582)).trans hx589_0; replace hx589_0 := (cell_far (p := ⟨gb588, 2, none⟩) (by first | (rw [add_block]; exact hn589_2) | (show (Addr.add _ _).block ≠ _; rw [add_block]; exact hn589_2) | exact hn589_2) (.int .i64 t583)).trans hx589_0; replace hx589_0 := (cell_far (p := ⟨gb588, 3, none⟩) (by first | (rw [add_block]; exact hn589_3) | (show (Addr.add _ _).block ≠ _; rw [add_block]; exact hn589_3) | exact hn589_3) (.slice Ao36 t584.length co36)).trans hx589_0; clear hn589_0; clear hn589_1; clear hn589_2; clear hn589_3; replace p589 := eq_true p589; replace q589 := eq_true q589) | ((with_reducible refine zq 128 ?_); refine zg (some 39) Tryz.func128 #[.string (rdOf ByteArray.empty t576 2)] ?_; (with_reducible refine (impl_ParseVer.calls kj3 (rdOf ByteArray.empty t576 2) t590 t591 t592 t593 t596 _ ?side1 A15.out).mono ?_); (case side1 => exact GW.below HG.out (zW HB.out)); rintro e w37 ⟨v594, rfl, ho0, hb⟩; refine ⟨_, rfl, ?_⟩; have HO595 := zA (Kd.R_lower (Kd.R_new' (Kd.R_new' (Kd.R_newM (M := fun k_ => (w.heap.size ≤ k_)) ho0 (below_size (zW HB.out)) (fun k_ h_ => h_)) (Kd.R_lt (zR (zr4 HO_4.out BK588.out)))) (Kd.R_lt (zR (zr4 HO586.out BK588.out)))) (below_size (zW HB.out))); replace HO_4 := zA (Kd.R_elder' (zR (zr4 HO_4.out BK588.out)) (Kd.R_base ho0) hb); replace HO586 := zA (Kd.R_elder' (zR (zr4 HO586.out BK588.out)) (Kd.R_base ho0) hb); replace BK588 := zA (blk_below (zk4 BK588.out) hb); replace HB := zh HB hb; (try clear hb ho0)) | ((with_reducible refine zd 7 ?_); refine ze 7 32 #[.int .i64 0, .int .i64 0, .int .i64 0, .slice none 0 0] ?_; intro gb597 hg w38 hbox hb; replace HO_4 := zr HO_4 hb; replace HO586 := zr HO586 hb; replace HO595 := zr HO595 hb; have BK597 := zA (hbox); have GW597 := zi HB hg; have GE597 := zi HB hg; replace HB := zh HB hb; have NB588_597 := zA (zL hg (zK BK588.out)); have NB597_588 := zA (zJ hg (zK BK588.out)); replace BK588 := zb BK588 hb; clear hb hbox hg; have hnb39 := NB597_588.out; have hnc39 := NB588_597.out; obtain ⟨hcz40_0, hcz40_1, hcz40_2, hcz40_3, hfz40_0, hfz40_1, hfz40_2, hfz40_3⟩ := ze4 BK597.out; obtain ⟨Ao41, co41, eo41⟩ := Kd.R_slice HO595.out; subst eo41) | ((with_reducible refine gate_store (t := 32) (p := 7) rfl ?_); refine store_event (t := 32) (p := 7) (v := ?vo_w42) (w1 := ((((w38.setCell ⟨gb597, 0, none⟩ (.int .i64 t590)).setCell ⟨gb597, 1, none⟩ (.int .i64 t591)).setCell ⟨gb597, 2, none⟩ (.int .i64 t592)).setCell ⟨gb597, 3, none⟩ (.slice Ao41 t593.length co41))) ?hg ?ho ?hn ?hr ?_; (case ho => rfl); (case hg => rfl); (case hn => rfl); (case hr => first | (go_simp; done) | (go_simp; rfl)); intro w42 hw; have n0_ : Aside0 (Kd.R Kd.string 9 w42 w.heap.size (fun k_ => (w.heap.size ≤ k_) ∧ some k_ ≠ (.slice Ao36 t584.length co36 : Value).ownBlock ∧ some k_ ≠ (.slice Ao41 t593.length co41 : Value).ownBlock) (.slice (some ad580) t576.length co32) t576) := ⟨(by rw [hw]; exact (zR (Kd.R_mono (zr4 HO_4.out BK597.out) (fun _ hk => ⟨hk.1.1, ⟨hk.1.2, hk.2⟩⟩))))⟩; have n1_ : Aside0 (Kd.R Kd.string 9 w42 w.heap.size (fun k_ => (w.heap.size ≤ k_) ∧ some k_ ≠ (.slice (some ad580) t576.length co32 : Value).ownBlock ∧ some k_ ≠ (.slice Ao41 t593.length co41 : Value).ownBlock) (.slice Ao36 t584.length co36) t584) := ⟨(by rw [hw]; exact (zR (Kd.R_mono (zr4 HO586.out BK597.out) (fun _ hk => ⟨hk.1.1.1, ⟨hk.1.2, hk.2⟩⟩))))⟩; have n2_ : Aside0 (Kd.R Kd.string 9 w42 w.heap.size (fun k_ => (w.heap.size ≤ k_) ∧ some k_ ≠ (.slice (some ad580) t576.length co32 : Value).ownBlock ∧ some k_ ≠ (.slice Ao36 t584.length co36 : Value).ownBlock) (.slice Ao41 t593.length co41) t593) := ⟨(by rw [hw]; exact (zR (Kd.R_mono (zr4 HO595.out BK597.out) (fun _ hk => ⟨hk.1.1.1, ⟨hk.1.2, hk.2⟩⟩))))⟩; have n3_ := zA (zh1 hw (zK BK588.out)); have n4_ := zA (zh1 hw (zk4 BK597.out)); have n5_ := zA (zh2 hw (zW HB.out)); clear hw; clear HO_4; clear HO586; clear HO595; clear BK588; clear BK597; clear HB; have HO_4 := n0_; have HO586 := n1_; have HO595 := n2_; have BK588 := n3_; have BK597 := n4_; have HB := n5_; clear n0_ n1_ n2_ n3_ n4_ n5_; obtain ⟨hcz43_0, hcz43_1, hcz43_2, hcz43_3, hfz43_0, hfz43_1, hfz43_2, hfz43_3⟩ := ze4 BK588.out; obtain ⟨hcz44_0, hcz44_1, hcz44_2, hcz44_3, hfz44_0, hfz44_1, hfz44_2, hfz44_3⟩ := ze4 BK597.out) | ((with_reducible refine gate_dst (N := 46) rfl ?_); refine Kd.N_lit k75 _ 75 ?hg (N' := 46) ?hd (xs := ([(⟨4, (⟨t581, t582, t583, t584⟩ : S32)⟩ : S75), (⟨2, (⟨t590, t591, t592, t593⟩ : S32)⟩ : S75)] : List (S75))) (inner := [.int .i64 4, .int .i64 t581, .int .i64 t582, .int .i64 t583, .slice Ao36 t584.length co36, .int .i64 2, .int .i64 t590, .int .i64 t591, .int .i64 t592, .slice Ao41 t593.length co41]) (ok := (fun k_ => (w.heap.size ≤ k_) ∧ some k_ ≠ (.slice (some ad580) t576.length co32 : Value).ownBlock ∧ k_ ≠ gb588 ∧ k_ ≠ gb597)) ?hr ?hp (fun _ hk => hk) ((show ∀ k_, w42.heap.size ≤ k_ → (fun k_ => (w.heap.size ≤ k_) ∧ some k_ ≠ (.slice (some ad580) t576.length co32 : Value).ownBlock ∧ k_ ≠ gb588 ∧ k_ ≠ gb597) k_ from fun k_ hk => ⟨(Nat.le_trans (below_size (zW HB.out)) hk), Kd.fresh' (Kd.R_lt (zR HO_4.out)) k_ hk, Kd.freshB (g := gb588) (o := .cells #[.int .i64 t581, .int .i64 t582, .int .i64 t583, .slice Ao36 t584.length co36] 32 (0, 0)) (zK BK588.out) k_ hk, Kd.freshB (g := gb597) (o := .cells #[.int .i64 t590, .int .i64 t591, .int .i64 t592, .slice Ao41 t593.length co41] 32 (0, 0)) (zK BK597.out) k_ hk⟩) _ (Nat.le_refl _)) (Below.refl _ _) (Nat.le_refl _) (by simp) ?_; (case hd => rfl); (case hg => rfl); (case hr => first | (go_simp; done) | (go_simp; rfl)); (case hp => exact (Reps.c5 (show Kd.FK k75 _ _ (⟨4, (⟨t581, t582, t583, t584⟩ : S32)⟩ : S75) [.int .i64 4, .int .i64 t581, .int .i64 t582, .int .i64 t583, .slice Ao36 t584.length co36] from (k75_mkF _ _ (⟨4, (⟨t581, t582, t583, t584⟩ : S32)⟩ : S75) (Kd.R_reads' (Kd.R_mono (ok' := (fun k_ => (w.heap.size ≤ k_) ∧ some k_ ≠ (.slice (some ad580) t576.length co32 : Value).ownBlock ∧ k_ ≠ gb588 ∧ k_ ≠ gb597)) (Kd.R_types (Kd.R_types (HO586.out) BK588.out (by decide)) BK597.out (by decide)) (fun k_ hk => ⟨hk.1.1.1, ⟨hk.1.1.2.1, ⟨hk.1.2, hk.2⟩⟩⟩))).2.1 (Kd.R_F (Kd.R_mono (ok' := (fun k_ => (w.heap.size ≤ k_) ∧ some k_ ≠ (.slice (some ad580) t576.length co32 : Value).ownBlock ∧ k_ ≠ gb588 ∧ k_ ≠ gb597)) (Kd.R_types (Kd.R_types (HO586.out) BK588.out (by decide)) BK597.out (by decide)) (fun k_ hk => ⟨hk.1.1.1, ⟨hk.1.1.2.1, ⟨hk.1.2, hk.2⟩⟩⟩))))) (Reps.c5 (show Kd.FK k75 _ _ (⟨2, (⟨t590, t591, t592, t593⟩ : S32)⟩ : S75) [.int .i64 2, .int .i64 t590, .int .i64 t591, .int .i64 t592, .slice Ao41 t593.length co41] from (k75_mkF _ _ (⟨2, (⟨t590, t591, t592, t593⟩ : S32)⟩ : S75) (Kd.R_reads' (Kd.R_mono (ok' := (fun k_ => (w.heap.size ≤ k_) ∧ some k_ ≠ (.slice (some ad580) t576.length co32 : Value).ownBlock ∧ k_ ≠ gb588 ∧ k_ ≠ gb597)) (Kd.R_types (Kd.R_types (HO595.out) BK588.out (by decide)) BK597.out (by decide)) (fun k_ hk => ⟨hk.1.1.1, ⟨hk.1.1.2.1, ⟨hk.1.2, hk.2⟩⟩⟩))).2.1 (Kd.R_F (Kd.R_mono (ok' := (fun k_ => (w.heap.size ≤ k_) ∧ some k_ ≠ (.slice (some ad580) t576.length co32 : Value).ownBlock ∧ k_ ≠ gb588 ∧ k_ ≠ gb597)) (Kd.R_types (Kd.R_types (HO595.out) BK588.out (by decide)) BK597.out (by decide)) (fun k_ hk => ⟨hk.1.1.1, ⟨hk.1.1.2.1, ⟨hk.1.2, hk.2⟩⟩⟩))))) (Reps.none _ _)))); intro v599 w45 ho46 hb hg_ hnew_; clear hg_ hnew_; (first | rw [← Ny598.out] at ho46 | (simp only [Int.reduceToNat] at ho46; rw [← Ny598.out] at ho46)); replace HO_4 := zr HO_4 hb; have HO600 := zA (Kd.N_lower ho46 (below_size (zW HB.out))); replace BK588 := zb BK588 hb; replace BK597 := zb BK597 hb; replace HB := zh HB hb; clear HO586 HO595; clear hb ho46))
      go_ret2
      exact ⟨_, zE, zNt (Kd.N_mono HO600.out (fun _ hk => hk.1)), zW HB.out⟩
    ·have H' := Aside0.mk H
     clear H
     go_wp2
     go_meet
     case rel => exact ⟨_, (by first | exact H' | (subst_vars; exact H')), ⟨by have := HJ3.out; first | omega | exact Nat.le_refl _⟩, ⟨zR HO_4.out⟩, ⟨zB⟩⟩
   case rest =>
    clear HC10
    try clear c1
    try clear c2
    try clear p2
    try clear c3
    try clear c5
    try clear p5
    try clear q5
    try clear hx5
    try clear qi5
    try clear c6
    try clear c6b0
    try clear c6b1
    try clear c7
    try clear c7b0
    try clear c7b1
    try clear c8
    try clear c11
    try clear c12
    try clear c12b0
    try clear c12b1
    try clear c14
    try clear c14b0
    try clear c14b1
    try clear c16
    try clear c24
    try clear c39
    try clear hcz20_0 hcz20_1 hcz20_2 hcz20_3 hfz20_0 hfz20_1 hfz20_2 hfz20_3
    try clear hcz25_0 hcz25_1 hcz25_2 hcz25_3 hfz25_0 hfz25_1 hfz25_2 hfz25_3
    try clear hcz28_0 hcz28_1 hcz28_2 hcz28_3 hfz28_0 hfz28_1 hfz28_2 hfz28_3
    try clear hcz29_0 hcz29_1 hcz29_2 hcz29_3 hfz29_0 hfz29_1 hfz29_2 hfz29_3
    try clear hcz35_0 hcz35_1 hcz35_2 hcz35_3 hfz35_0 hfz35_1 hfz35_2 hfz35_3
    try clear hcz40_0 hcz40_1 hcz40_2 hcz40_3 hfz40_0 hfz40_1 hfz40_2 hfz40_3
    try clear hcz43_0 hcz43_1 hcz43_2 hcz43_3 hfz43_0 hfz43_1 hfz43_2 hfz43_3
    try clear hcz44_0 hcz44_1 hcz44_2 hcz44_3 hfz44_0 hfz44_1 hfz44_2 hfz44_3
    try clear hx579_0
    try clear hx580_0
    try clear hx589_0
    try clear p2
    try clear p5
    try clear p579
    try clear p580
    try clear p589
    try clear q5
    try clear q579
    try clear q580
    try clear q589
    obtain ⟨kq, HA, HJ9, HO_4, HB⟩ := hcut
    cases kq with
    | zero => exact absurd HA.out (by simp [impl_listOf.j1])
    | succ kj9 =>
     have H := HA.out
     clear HA
     simp only [impl_listOf.j1] at H
     have H' := Aside0.mk H
     clear H
     obtain ⟨Ao47, co47, eo47⟩ := Kd.R_slice HO_4.out
     subst eo47
     go_wp2
     go_loopg [9, 53] kj9 (fun kq v9 v53 w' => ∃ (x9_3 : List (S75)) (x53_3 : Int), v53 = .int .i64 x53_3 ∧ Aside0 (impl_listOf.l0 kq x9_3 t576 (t576.length : Int) x53_3 = some (r1, r2)) ∧ Aside0 (kq ≤ kj9) ∧ Aside0 (Kd.N k75 75 w' w.heap.size (fun k_ => (w.heap.size ≤ k_) ∧ some k_ ≠ ((.slice Ao47 t576.length co47) : Value).ownBlock) v9 x9_3) ∧ Aside0 (Kd.R Kd.string 9 w' w.heap.size (fun k_ => (w.heap.size ≤ k_)) (.slice Ao47 t576.length co47) t576) ∧ Aside0 (Below w.heap.size w w'))
     case atStart => exact ⟨(([] : List (S75))), (0), zS, H', ⟨Nat.le_refl _⟩, ⟨by first | exact Kd.S_nil _ _ _ _ _ | exact Kd.N_nil _ _ _ _ _ | exact Kd.V_nil _ _ _ _ _ | exact Kd.Q_nil _ _ _ _ _ | exact Kd.R_nil _ _ _ _ _⟩, ⟨zR HO_4.out⟩, ⟨zB⟩⟩
     case round =>
      clear H'
      try clear c1
      try clear c2
      try clear p2
      try clear c3
      try clear c5
      try clear p5
      try clear q5
      try clear hx5
      try clear qi5
      try clear c6
      try clear c6b0
      try clear c6b1
      try clear c7
      try clear c7b0
      try clear c7b1
      try clear c8
      try clear c11
      try clear c12
      try clear c12b0
      try clear c12b1
      try clear c14
      try clear c14b0
      try clear c14b1
      try clear c16
      try clear c24
      try clear c39
      try clear hcz20_0 hcz20_1 hcz20_2 hcz20_3 hfz20_0 hfz20_1 hfz20_2 hfz20_3
      try clear hcz25_0 hcz25_1 hcz25_2 hcz25_3 hfz25_0 hfz25_1 hfz25_2 hfz25_3
      try clear hcz28_0 hcz28_1 hcz28_2 hcz28_3 hfz28_0 hfz28_1 hfz28_2 hfz28_3
      try clear hcz29_0 hcz29_1 hcz29_2 hcz29_3 hfz29_0 hfz29_1 hfz29_2 hfz29_3
      try clear hcz35_0 hcz35_1 hcz35_2 hcz35_3 hfz35_0 hfz35_1 hfz35_2 hfz35_3
      try clear hcz40_0 hcz40_1 hcz40_2 hcz40_3 hfz40_0 hfz40_1 hfz40_2 hfz40_3
      try clear hcz43_0 hcz43_1 hcz43_2 hcz43_3 hfz43_0 hfz43_1 hfz43_2 hfz43_3
      try clear hcz44_0 hcz44_1 hcz44_2 hcz44_3 hfz44_0 hfz44_1 hfz44_2 hfz44_3
      try clear hx579_0
      try clear hx580_0
      try clear hx589_0
      try clear p2
      try clear p5
      try clear p579
      try clear p580
      try clear p589
      try clear q5
      try clear q579
      try clear q580
      try clear q589
      obtain ⟨x9_3, x53_3, rfl, HA, HK3, HO_9, HO_51, HB⟩ := hrel
      cases gk with
      | zero => exact absurd HA.out (by simp [impl_listOf.l0])
      | succ k3 =>
       have H := HA.out
       clear HA
       simp only [impl_listOf.l0] at H
       replace H := zI0 H
       rcases H with ⟨c48b0, H⟩ | ⟨c48b0, H⟩
       ·replace H := zD0 H
        obtain ⟨c49b0, H⟩ := H
        replace H := zD0 H
        obtain ⟨c50b0, H⟩ := H
        replace H := zj H
        obtain ⟨⟨t602, t605⟩, A51, H⟩ := H
        try dsimp only at H
        replace H := zB0 H
        rcases H with ⟨rfl, H⟩ | ⟨rfl, H⟩
        ·replace H := zC0 H
         obtain ⟨c53, H⟩ := H
         have LMc53 := Aside0.mk c53
         clear c53
         obtain ⟨y606, hy606⟩ : ∃ y_ : List (S75), y_ = (x9_3 ++ t602) := ⟨_, rfl⟩
         replace H : (impl_listOf.l0 k3 y606 t576 (t576.length : Int) (wrap64 (x53_3 + 1))) = some (r1, r2) := zY hy606 H
         have Ny606 := Aside0.mk hy606
         clear hy606
         have H' := Aside0.mk H
         clear H
         have p601 : 0 ≤ (x53_3 : Int) := zD
         have q601 : x53_3 < (t576.length : Int) := zD
         obtain ⟨ad601, e601, hx601_0⟩ := Kd.at_string (Kd.R_reads' HO_51.out).2.2 x53_3 p601 q601
         cases e601
         replace p601 := eq_true p601
         replace q601 := eq_true q601
         go_wp2_with (first | ((with_reducible refine zq 129 ?_); refine zg (some 59) Tryz.func129 #[.string (rdOf ByteArray.empty t576 x53_3)] ?_; (with_reducible refine (impl_cmpsOf.calls k3 (rdOf ByteArray.empty t576 x53_3) t602 true _ ?side1 A51.out).mono ?_); (case side1 => exact GW.below HG.out (zB)); rintro e w54 ⟨v603, rfl, ho0, hb⟩; refine ⟨_, rfl, ?_⟩; have HO604 := zA (Kd.N_lower (Kd.N_mono (ok' := fun k_ => (w.heap.size ≤ k_) ∧ some k_ ≠ (u9 : Value).ownBlock ∧ some k_ ≠ (.slice (some ad601) t576.length co47 : Value).ownBlock) ho0 (fun k_ hk_ => ⟨(Nat.le_trans (below_size (zB)) hk_), (Kd.fresh' (Kd.N_lt (zN HO_9.out)) k_ hk_), (Kd.fresh' (Kd.R_lt (zR HO_51.out)) k_ hk_)⟩)) (below_size (zB))); replace HO_9 := zA (Kd.N_elder' (zN HO_9.out) (Kd.N_base ho0) hb); replace HO_51 := zr HO_51 hb; replace HB := zA (below_step (zB) hb); (try clear hb ho0); obtain ⟨Ao56, co56, eo56⟩ := Kd.N_slice HO604.out; subst eo56) | ((with_reducible refine gate_builtin (b := .append) (xs := #[.tmp 64, .tmp 65]) rfl ?_); at_builtin; refine Kd.N_append_rows k75 (w0 := w) w.heap.size rfl (.tmp 64) (.tmp 65) 108 75 (.agg #[(.int .i64 0), (.int .i64 0), (.int .i64 0), (.int .i64 0), (.slice none 0 0)]) 56 rfl Tryz.underlying108 info75 rfl (by decide) (by omega) u9 x9_3 t602 _ _ _ (fun k_ => (w.heap.size ≤ k_) ∧ some k_ ≠ (.slice (some ad601) t576.length co47 : Value).ownBlock) (fun k_ => ((fun k_ => (w.heap.size ≤ k_) ∧ some k_ ≠ (.slice (some ad601) t576.length co47 : Value).ownBlock)) k_ ∧ some k_ ≠ (u9 : Value).ownBlock) rfl rfl ?aO ?aR (fun _ hk => hk) ?aF ?aB ?aS ?aL ?_; (case aR => exact (by skip; exact Kd.N_F (Kd.N_mono (ok' := (fun k_ => ((fun k_ => (w.heap.size ≤ k_) ∧ some k_ ≠ (.slice (some ad601) t576.length co47 : Value).ownBlock)) k_ ∧ some k_ ≠ (u9 : Value).ownBlock)) (HO604.out) (fun k_ hk => ⟨⟨hk.1, hk.2.2⟩, hk.2.1⟩)))); (case aB => exact (zB)); (case aF => exact (fun k_ hk => ⟨(Nat.le_trans (below_size (zB)) hk), Kd.fresh' (Kd.R_lt (zR HO_51.out)) k_ hk⟩)); (case aO => exact (zNt (Kd.N_mono HO_9.out (fun _ hk => ⟨hk.1.1, hk.1.2⟩)))); (case aS => exact (below_size (zB))); (case aL => have := LMc53.out; omega); intro v607 w55 ho hb hg hat; rw [← Ny606.out] at ho; replace HO_51 := zA (Kd.R_over' (zR HO_51.out) (Kd.N_typed (zN HO_9.out)) (by decide) hg); replace HO604 := zA (Kd.N_afterv (ok := (fun k_ => (w.heap.size ≤ k_) ∧ some k_ ≠ (.slice (some ad601) t576.length co47 : Value).ownBlock)) (zNt (Kd.N_mono HO604.out (fun _ hk => ⟨⟨hk.1, hk.2.2⟩, hk.2.1⟩))) hg hat); replace HB := zA (hb); have HO608 := zA (ho); clear HO_9; clear ho hb hg hat))
         go_roundg k3
         case measure => have := HJ3.out; have := HJ9.out; have := HK3.out; omega
         case rel => exact ⟨(y606), (wrap64 (x53_3 + 1)), zS, H', ⟨by have := HJ3.out; have := HJ9.out; have := HK3.out; omega⟩, ⟨zN HO608.out⟩, ⟨zR HO_51.out⟩, ⟨zB⟩⟩
        ·simp only [Option.some.injEq, Prod.mk.injEq] at H
         obtain ⟨rfl, rfl⟩ := H
         have p601 : 0 ≤ (x53_3 : Int) := zD
         have q601 : x53_3 < (t576.length : Int) := zD
         obtain ⟨ad601, e601, hx601_0⟩ := Kd.at_string (Kd.R_reads' HO_51.out).2.2 x53_3 p601 q601
         cases e601
         replace p601 := eq_true p601
         replace q601 := eq_true q601
         go_wp2_with (first | ((with_reducible refine zq 129 ?_); refine zg (some 59) Tryz.func129 #[.string (rdOf ByteArray.empty t576 x53_3)] ?_; (with_reducible refine (impl_cmpsOf.calls k3 (rdOf ByteArray.empty t576 x53_3) t602 false _ ?side1 A51.out).mono ?_); (case side1 => exact GW.below HG.out (zB)); rintro e w57 ⟨v603, rfl, ho0, hb⟩; refine ⟨_, rfl, ?_⟩; have HO604 := zA (Kd.N_lower (Kd.N_mono (ok' := fun k_ => (w.heap.size ≤ k_) ∧ some k_ ≠ (u9 : Value).ownBlock ∧ some k_ ≠ (.slice (some ad601) t576.length co47 : Value).ownBlock) ho0 (fun k_ hk_ => ⟨(Nat.le_trans (below_size (zB)) hk_), (Kd.fresh' (Kd.N_lt (zN HO_9.out)) k_ hk_), (Kd.fresh' (Kd.R_lt (zR HO_51.out)) k_ hk_)⟩)) (below_size (zB))); replace HO_9 := zA (Kd.N_elder' (zN HO_9.out) (Kd.N_base ho0) hb); replace HO_51 := zr HO_51 hb; replace HB := zA (below_step (zB) hb); (try clear hb ho0)))
         go_ret2
         exact ⟨_, zE, by first | exact Kd.S_nil _ _ _ _ _ | exact Kd.N_nil _ _ _ _ _ | exact Kd.V_nil _ _ _ _ _ | exact Kd.Q_nil _ _ _ _ _ | exact Kd.R_nil _ _ _ _ _, zB⟩
       ·have H' := Aside0.mk H
        clear H
        obtain ⟨Ao58, co58, eo58⟩ := Kd.N_slice HO_9.out
        subst eo58
        go_wp2
        go_loopg [70] k3 (fun kq v70 w' => ∃ (x70_4 : Int), v70 = .int .i64 x70_4 ∧ Aside0 (impl_listOf.l1 kq x9_3 x9_3 (x9_3.length : Int) x70_4 = some (r1, r2)) ∧ Aside0 (kq ≤ k3) ∧ Aside0 (Kd.N k75 75 w' w.heap.size (fun k_ => (w.heap.size ≤ k_)) (.slice Ao58 x9_3.length co58) x9_3) ∧ Aside0 (Kd.N k75 75 w' w.heap.size (fun k_ => (w.heap.size ≤ k_)) (.slice Ao58 x9_3.length co58) x9_3) ∧ Aside0 (Below w.heap.size w w'))
        case atStart => exact ⟨(0), zS, H', ⟨Nat.le_refl _⟩, ⟨zNt (Kd.N_mono HO_9.out (fun _ hk => hk.1))⟩, ⟨zNt (Kd.N_mono HO_9.out (fun _ hk => hk.1))⟩, ⟨zB⟩⟩
        case round =>
         clear H'
         try clear c1
         try clear c2
         try clear p2
         try clear c3
         try clear c4
         try clear c5
         try clear p5
         try clear q5
         try clear hx5
         try clear qi5
         try clear c6
         try clear c6b0
         try clear c6b1
         try clear p6
         try clear q6
         try clear hx6
         try clear c7
         try clear c7b0
         try clear c7b1
         try clear c8
         try clear c11
         try clear c12
         try clear c12b0
         try clear c12b1
         try clear c14
         try clear c14b0
         try clear c14b1
         try clear c16
         try clear c24
         try clear c39
         try clear c48
         try clear c48b0
         try clear c49
         try clear c49b0
         try clear c50
         try clear c50b0
         try clear c52
         try clear c53
         try clear p57
         try clear q57
         try clear hx57
         try clear qi57
         try clear p58
         try clear q58
         try clear hx58
         try clear qi58
         try clear hcz20_0 hcz20_1 hcz20_2 hcz20_3 hfz20_0 hfz20_1 hfz20_2 hfz20_3
         try clear hcz25_0 hcz25_1 hcz25_2 hcz25_3 hfz25_0 hfz25_1 hfz25_2 hfz25_3
         try clear hcz28_0 hcz28_1 hcz28_2 hcz28_3 hfz28_0 hfz28_1 hfz28_2 hfz28_3
         try clear hcz29_0 hcz29_1 hcz29_2 hcz29_3 hfz29_0 hfz29_1 hfz29_2 hfz29_3
         try clear hcz35_0 hcz35_1 hcz35_2 hcz35_3 hfz35_0 hfz35_1 hfz35_2 hfz35_3
         try clear hcz40_0 hcz40_1 hcz40_2 hcz40_3 hfz40_0 hfz40_1 hfz40_2 hfz40_3
         try clear hcz43_0 hcz43_1 hcz43_2 hcz43_3 hfz43_0 hfz43_1 hfz43_2 hfz43_3
         try clear hcz44_0 hcz44_1 hcz44_2 hcz44_3 hfz44_0 hfz44_1 hfz44_2 hfz44_3
         try clear hx579_0
         try clear hx580_0
         try clear hx589_0
         try clear hx601_0
         try clear p2
         try clear p5
         try clear p579
         try clear p580
         try clear p589
         try clear p601
         try clear q5
         try clear q579
         try clear q580
         try clear q589
         try clear q601
         obtain ⟨x70_4, rfl, HA, HK4, HO_9, HO_68, HB⟩ := hrel
         cases gk with
         | zero => exact absurd HA.out (by simp [impl_listOf.l1])
         | succ k4 =>
          have H := HA.out
          clear HA
          simp only [impl_listOf.l1] at H
          replace H := zI0 H
          rcases H with ⟨c59b0, H⟩ | ⟨c59b0, H⟩
          ·replace H := zD0 H
           obtain ⟨c60b0, H⟩ := H
           replace H := zD0 H
           obtain ⟨c61b0, H⟩ := H
           replace H := zj H
           obtain ⟨t611, A62, H⟩ := H
           try dsimp only at H
           replace H := zB0 H
           rcases H with ⟨rfl, H⟩ | ⟨rfl, H⟩
           ·have H' := Aside0.mk H
            clear H
            have p609 : 0 ≤ (x70_4 : Int) := zD
            have q609 : x70_4 < (x9_3.length : Int) := zD
            obtain ⟨ad609, A609_4, c609_4, e609, hx609_0, hx609_1, hx609_2, hx609_3, hx609_4, hl609_4, hi609_4⟩ := at_T75 (Kd.N_reads' HO_68.out).2.2 x70_4 p609 q609
            cases e609
            obtain ⟨ce609, hce609, hMe609, hcc609⟩ := Kd.N_get HO_68.out z75 x70_4 p609 (by first | exact q609 | exact zD | (have e_ := (Kd.N_reads' HO_68.out).1; omega))
            obtain ⟨ua609_4, uc609_4, rfl, ul609_4, ge609_4⟩ := k75_openF hMe609
            have hv609_4 := hcc609 4 _ rfl
            rw [add_field _ _ 4 (by omega)] at hv609_4
            replace hv609_4 := Option.some.inj (hv609_4.symm.trans hx609_4)
            injection hv609_4 with hva_ hvn_ hvc_
            rw [hva_] at ge609_4
            rw [hvc_] at ul609_4
            have HL609_4 := zA (show Kd.V Kd.string 9 _ w.heap.size _ _ ((rd_T75 x9_3 x70_4).f1.f3) from Kd.V_mk ul609_4 ge609_4)
            clear hva_ hvn_ hvc_ ge609_4 ul609_4
            clear hcc609 hce609
            have HR609_4 := Aside0.mk hi609_4
            have HC609_4 := Aside0.mk hl609_4
            clear hi609_4 hl609_4
            replace p609 := eq_true p609
            replace q609 := eq_true q609
            go_wp2_with (first | ((with_reducible refine zd 15 ?_); refine ze 15 75 #[.int .i64 0, .int .i64 0, .int .i64 0, .int .i64 0, .slice none 0 0] ?_; intro gb610 hg w64 hbox hb; replace HO_9 := zA (Kd.N_below (Kd.N_elderB (zN HO_9.out) gb610 (Nat.le_of_eq hg.symm)) hb); replace HO_68 := zA (Kd.N_below (Kd.N_elderB (zN HO_68.out) gb610 (Nat.le_of_eq hg.symm)) hb); replace HL609_4 := zA (Kd.V_below (Kd.V_elderB (zV HL609_4.out) gb610 (Nat.le_of_eq hg.symm)) hb); replace HR609_4 := zA (Kd.C_below (by repeat (first | (with_reducible exact HR609_4.out) | (with_reducible refine Kd.C_alloc ?_ _) | (with_reducible refine Kd.C_drewN ?_ _) | (with_reducible refine Kd.C_drew ?_) | exact HR609_4.out)) hb); have BK610 := zA (hbox); have GW610 := zi HB hg; have GE610 := zi HB hg; replace HB := zA (below_step (zB) hb); clear hb hbox hg; obtain ⟨hcz65_0, hcz65_1, hcz65_2, hcz65_3, hcz65_4, hfz65_0, hfz65_1, hfz65_2, hfz65_3, hfz65_4⟩ := ze5 BK610.out) | ((with_reducible refine zq 71 ?_); refine zg (some 76) Tryz.func71 #[.agg #[.int .i64 ((rd_T75 x9_3 x70_4).f1.f0), .int .i64 ((rd_T75 x9_3 x70_4).f1.f1), .int .i64 ((rd_T75 x9_3 x70_4).f1.f2), .slice A609_4 ((rd_T75 x9_3 x70_4).f1.f3).length c609_4]] ?_; (with_reducible refine (impl_VerOk.calls k4 ((rd_T75 x9_3 x70_4).f1.f0) ((rd_T75 x9_3 x70_4).f1.f1) ((rd_T75 x9_3 x70_4).f1.f2) _ _ ((rd_T75 x9_3 x70_4).f1.f3) true _ ?side1 ?side2 A62.out).mono ?_); (case side1 => repeat (first | exact ((Kd.V_reads' (zVt (zv5 HL609_4.out (fun _ hk => hk.2)))).2.2) | (with_reducible refine Kd.C_alloc ?_ _) | (with_reducible refine Kd.C_drewN ?_ _) | (with_reducible refine Kd.C_drew ?_))); (case side2 => exact HC609_4.out); rintro e w66 ⟨rfl, hb⟩; refine ⟨_, rfl, ?_⟩; replace HO_9 := zA (Kd.N_below (zNt (zn5 HO_9.out (fun _ hk => hk.2))) hb); replace HO_68 := zA (Kd.N_below (zNt (zn5 HO_68.out (fun _ hk => hk.2))) hb); replace HR609_4 := zA (Kd.C_below ((Kd.V_reads' (zVt (zv5 HL609_4.out (fun _ hk => hk.2)))).2.2) hb); replace HL609_4 := zA (Kd.V_below (zVt (zv5 HL609_4.out (fun _ hk => hk.2))) hb); replace BK610 := zA (blk_below (zk5 BK610.out) hb); replace HB := zh HB hb; (try clear hb)))
            go_roundg k4
            case measure => have := HJ3.out; have := HJ9.out; have := HK3.out; have := HK4.out; omega
            case rel => exact ⟨(wrap64 (x70_4 + 1)), zS, H', ⟨by have := HJ3.out; have := HJ9.out; have := HK3.out; have := HK4.out; omega⟩, ⟨zNt (Kd.N_mono HO_9.out (fun _ hk => hk.1))⟩, ⟨zNt (Kd.N_mono HO_68.out (fun _ hk => hk.1))⟩, ⟨zW HB.out⟩⟩
           ·simp only [Option.some.injEq, Prod.mk.injEq] at H
            obtain ⟨rfl, rfl⟩ := H
            have p609 : 0 ≤ (x70_4 : Int) := zD
            have q609 : x70_4 < (x9_3.length : Int) := zD
            obtain ⟨ad609, A609_4, c609_4, e609, hx609_0, hx609_1, hx609_2, hx609_3, hx609_4, hl609_4, hi609_4⟩ := at_T75 (Kd.N_reads' HO_68.out).2.2 x70_4 p609 q609
            cases e609
            obtain ⟨ce609, hce609, hMe609, hcc609⟩ := Kd.N_get HO_68.out z75 x70_4 p609 (by first | exact q609 | exact zD | (have e_ := (Kd.N_reads' HO_68.out).1; omega))
            obtain ⟨ua609_4, uc609_4, rfl, ul609_4, ge609_4⟩ := k75_openF hMe609
            have hv609_4 := hcc609 4 _ rfl
            rw [add_field _ _ 4 (by omega)] at hv609_4
            replace hv609_4 := Option.some.inj (hv609_4.symm.trans hx609_4)
            injection hv609_4 with hva_ hvn_ hvc_
            rw [hva_] at ge609_4
            rw [hvc_] at ul609_4
            have HL609_4 := zA (show Kd.V Kd.string 9 _ w.heap.size _ _ ((rd_T75 x9_3 x70_4).f1.f3) from Kd.V_mk ul609_4 ge609_4)
            clear hva_ hvn_ hvc_ ge609_4 ul609_4
            clear hcc609 hce609
            have HR609_4 := Aside0.mk hi609_4
            have HC609_4 := Aside0.mk hl609_4
            clear hi609_4 hl609_4
            replace p609 := eq_true p609
            replace q609 := eq_true q609
            go_wp2_with (first | ((with_reducible refine zd 15 ?_); refine ze 15 75 #[.int .i64 0, .int .i64 0, .int .i64 0, .int .i64 0, .slice none 0 0] ?_; intro gb610 hg w67 hbox hb; replace HO_9 := zA (Kd.N_below (Kd.N_elderB (zN HO_9.out) gb610 (Nat.le_of_eq hg.symm)) hb); replace HO_68 := zA (Kd.N_below (Kd.N_elderB (zN HO_68.out) gb610 (Nat.le_of_eq hg.symm)) hb); replace HL609_4 := zA (Kd.V_below (Kd.V_elderB (zV HL609_4.out) gb610 (Nat.le_of_eq hg.symm)) hb); replace HR609_4 := zA (Kd.C_below (by repeat (first | (with_reducible exact HR609_4.out) | (with_reducible refine Kd.C_alloc ?_ _) | (with_reducible refine Kd.C_drewN ?_ _) | (with_reducible refine Kd.C_drew ?_) | exact HR609_4.out)) hb); have BK610 := zA (hbox); have GW610 := zi HB hg; have GE610 := zi HB hg; replace HB := zA (below_step (zB) hb); clear hb hbox hg; obtain ⟨hcz68_0, hcz68_1, hcz68_2, hcz68_3, hcz68_4, hfz68_0, hfz68_1, hfz68_2, hfz68_3, hfz68_4⟩ := ze5 BK610.out) | ((with_reducible refine zq 71 ?_); refine zg (some 76) Tryz.func71 #[.agg #[.int .i64 ((rd_T75 x9_3 x70_4).f1.f0), .int .i64 ((rd_T75 x9_3 x70_4).f1.f1), .int .i64 ((rd_T75 x9_3 x70_4).f1.f2), .slice A609_4 ((rd_T75 x9_3 x70_4).f1.f3).length c609_4]] ?_; (with_reducible refine (impl_VerOk.calls k4 ((rd_T75 x9_3 x70_4).f1.f0) ((rd_T75 x9_3 x70_4).f1.f1) ((rd_T75 x9_3 x70_4).f1.f2) _ _ ((rd_T75 x9_3 x70_4).f1.f3) false _ ?side1 ?side2 A62.out).mono ?_); (case side1 => repeat (first | exact ((Kd.V_reads' (zVt (zv5 HL609_4.out (fun _ hk => hk.2)))).2.2) | (with_reducible refine Kd.C_alloc ?_ _) | (with_reducible refine Kd.C_drewN ?_ _) | (with_reducible refine Kd.C_drew ?_))); (case side2 => exact HC609_4.out); rintro e w69 ⟨rfl, hb⟩; refine ⟨_, rfl, ?_⟩; replace HO_9 := zA (Kd.N_below (zNt (zn5 HO_9.out (fun _ hk => hk.2))) hb); replace HO_68 := zA (Kd.N_below (zNt (zn5 HO_68.out (fun _ hk => hk.2))) hb); replace HR609_4 := zA (Kd.C_below ((Kd.V_reads' (zVt (zv5 HL609_4.out (fun _ hk => hk.2)))).2.2) hb); replace HL609_4 := zA (Kd.V_below (zVt (zv5 HL609_4.out (fun _ hk => hk.2))) hb); replace BK610 := zA (blk_below (zk5 BK610.out) hb); replace HB := zh HB hb; (try clear hb)))
            go_ret2
            exact ⟨_, zE, by first | exact Kd.S_nil _ _ _ _ _ | exact Kd.N_nil _ _ _ _ _ | exact Kd.V_nil _ _ _ _ _ | exact Kd.Q_nil _ _ _ _ _ | exact Kd.R_nil _ _ _ _ _, zW HB.out⟩
          ·simp only [Option.some.injEq, Prod.mk.injEq] at H
           obtain ⟨rfl, rfl⟩ := H
           go_wp2
           go_ret2
           exact ⟨_, zE, zN HO_9.out, zB⟩
end Go.Proofs.YtpcdhoeoefoeoaaGreatDoor.PGA
