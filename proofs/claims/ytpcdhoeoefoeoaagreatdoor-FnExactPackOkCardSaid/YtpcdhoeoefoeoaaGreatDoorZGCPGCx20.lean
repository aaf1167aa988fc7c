/- The walks of the functions that these laws reach, and what each comes to: printed by this session's program. -/
import Derived.Test.YtpcdhoeoefoeoaaGreatDoorZGCPGCx0
import Derived.Test.YtpcdhoeoefoeoaaGreatDoorZGCPGCx15
import Derived.Test.YtpcdhoeoefoeoaaGreatDoorZGCPGCx16
import Derived.Test.YtpcdhoeoefoeoaaGreatDoorZGCPGCx17
import Derived.Test.YtpcdhoeoefoeoaaGreatDoorZGCPGCx18
import Derived.Test.YtpcdhoeoefoeoaaGreatDoorZGCPGCx19
import Derived.Test.YtpcdhoeoefoeoaaGreatDoorZGCSays
import Derived.Test.YtpcdhoeoefoeoaaGreatDoorZGCRegN
import Derived.Test.YtpcdhoeoefoeoaaGreatDoorZGCRegs
namespace Go.Proofs.YtpcdhoeoefoeoaaGreatDoor.PGC
open Go.RowKit YtpcdhoeoefoeoaaGreatDoorW.PrintWords YtpcdhoeoefoeoaaGreatDoorW.PrintLast YtpcdhoeoefoeoaaGreatDoorW.PrintMore
attribute [local go_sem high] Mine.str_gtr Mine.str_leq Mine.str_geq
attribute [local go_sem] max2_int min2_int max_two min_two max_three min_three max_four min_four   -- for this text's walks alone
set_option linter.unusedVariables false
set_option maxHeartbeats 8000000
set_option maxRecDepth 100000
set_option linter.unusedSimpArgs false
/-! ### impl_cmpsOf: function 129 -/
theorem impl_cmpsOf.drawn {w w' : World} (h : Drawn0 w w') : Below w.heap.size w w' := by
 obtain ⟨n_, e_⟩ := h.out
 rw [e_]
 exact pw_below_drewN (Below.refl _ _) n_
def impl_cmpsOf.signs : List ByteArray := [(⟨#[94]⟩ : ByteArray), (⟨#[126]⟩ : ByteArray), (⟨#[62, 61]⟩ : ByteArray), (⟨#[62]⟩ : ByteArray), (⟨#[60, 61]⟩ : ByteArray), (⟨#[60]⟩ : ByteArray), (⟨#[61]⟩ : ByteArray), (⟨#[]⟩ : ByteArray)]
def impl_cmpsOf.go (k : Nat) (a0 : ByteArray) : List ByteArray → Option ((List (S75)) × Bool)
 | [] => some ([], false)
 | g :: r => (strings_CutPrefix.f a0 g).bind fun t => if t.2 = true then (impl_partOf.f k t.1).bind fun p => if p.2.2.2.2.2 = true then (impl_wordCmps.f k g p.1 p.2.1 p.2.2.1 p.2.2.2.1 p.2.2.2.2.1).bind fun l => some (l, true) else some ([], false) else impl_cmpsOf.go k a0 r
def impl_cmpsOf.f (k : Nat) (a0 : ByteArray) : Option ((List (S75)) × Bool) := if a0.toList = ([42] : List UInt8) then some ([(⟨4, (⟨0, 0, 0, ([] : List ByteArray)⟩ : S32)⟩ : S75)], true) else impl_cmpsOf.go k a0 impl_cmpsOf.signs
theorem impl_cmpsOf.at (m : Nat) (hm : m < 8) : ∃ g, impl_cmpsOf.signs.drop m = g :: impl_cmpsOf.signs.drop (m + 1) ∧ ∀ W : World, (Instr.index 184 (.agg #[.string ⟨#[94]⟩, .string ⟨#[126]⟩, .string ⟨#[62, 61]⟩, .string ⟨#[62]⟩, .string ⟨#[60, 61]⟩, .string ⟨#[60]⟩, .string ⟨#[61]⟩, .string ⟨#[]⟩]) (.int .i64 (m : Int))).run Tryz.prog W = .ok (.string g) W := by
 match m, hm with
 | 0, _ => exact ⟨_, rfl, fun W => by kernel_rfl⟩
 | 1, _ => exact ⟨_, rfl, fun W => by kernel_rfl⟩
 | 2, _ => exact ⟨_, rfl, fun W => by kernel_rfl⟩
 | 3, _ => exact ⟨_, rfl, fun W => by kernel_rfl⟩
 | 4, _ => exact ⟨_, rfl, fun W => by kernel_rfl⟩
 | 5, _ => exact ⟨_, rfl, fun W => by kernel_rfl⟩
 | 6, _ => exact ⟨_, rfl, fun W => by kernel_rfl⟩
 | 7, _ => exact ⟨_, rfl, fun W => by kernel_rfl⟩
 | m + 8, h => omega
theorem impl_cmpsOf.calls (k : Nat) (a0 : ByteArray) (r1 : List (S75)) (r2 : Bool) (w : World) (hG : GW w) (h : impl_cmpsOf.f k a0 = some (r1, r2)) :
  Calls Tryz.prog 129 #[.string a0] w fun e w' => ∃ a3 : Value, e = .returned (.tuple #[a3, .bool r2]) ∧ Kd.N k75 75 w' w.heap.size (fun k_ => (w.heap.size ≤ k_)) a3 r1 ∧ Below w.heap.size w w' := by
 have hu_ := Tryz.underlying32
 have b5 := Tryz.underlying75
 have HG := Aside0.mk hG
 have HB := zA (Below.refl w.heap.size w)
 clear hG
 unfold impl_cmpsOf.f at h
 by_cases c3 : a0.toList = ([42] : List UInt8)
 ·rw [if_pos c3] at h
  have a5 := beq_iff_eq.mpr c3
  clear c3
  simp only [Option.some.injEq, Prod.mk.injEq] at h
  obtain ⟨rfl, rfl⟩ := h
  go_enter Tryz.func129, Tryz.ntmps129
  go_wp2_with (first | ((with_reducible refine gate_dst (N := 14) rfl ?_); refine Kd.N_lit k75 _ 75 ?hg (N' := 14) ?hd (xs := ([(⟨4, (⟨0, 0, 0, ([] : List ByteArray)⟩ : S32)⟩ : S75)] : List (S75))) (inner := [.int .i64 4, .int .i64 0, .int .i64 0, .int .i64 0, .slice none 0 0]) (ok := (fun k_ => (w.heap.size ≤ k_))) ?hr ?hp (fun _ hk => hk) ((show ∀ k_, w.heap.size ≤ k_ → (fun k_ => (w.heap.size ≤ k_)) k_ from fun k_ hk => (Nat.le_trans (below_size (zW HB.out)) hk)) _ (Nat.le_refl _)) (Below.refl _ _) (Nat.le_refl _) (by simp) ?_; (case hd => rfl); (case hg => rfl); (case hr => first | (go_simp; done) | (go_simp; rfl)); (case hp => exact (Reps.c5 (show Kd.FK k75 _ _ (⟨4, (⟨0, 0, 0, ([] : List ByteArray)⟩ : S32)⟩ : S75) [.int .i64 4, .int .i64 0, .int .i64 0, .int .i64 0, .slice none 0 0] from (k75_mkF _ _ (⟨4, (⟨0, 0, 0, ([] : List ByteArray)⟩ : S32)⟩ : S75) (Nat.le_refl _) (Kd.F_nil _ _ _))) (Reps.none _ _))); intro b6 w4 a4 hb hg_ hnew_; clear hg_ hnew_; have HN := zA (Kd.N_lower a4 (below_size (zW HB.out))); replace HB := zh HB hb; clear hb a4))
  go_ret2
  exact ⟨_, rfl, zN HN.out, zW HB.out⟩
 ·rw [if_neg c3] at h
  have a5 := beq_eq_false_iff_ne.mpr c3
  have REST := Aside0.mk h
  clear c3 h
  go_enter Tryz.func129, Tryz.ntmps129
  go_wp2
  go_loopg [16] 8 (fun gg a6 wr => ∃ m : Nat, m ≤ 8 ∧ 8 - m ≤ gg ∧ a6 = .int .i64 (m : Int) ∧ Aside0 (impl_cmpsOf.go k a0 (impl_cmpsOf.signs.drop m) = some (r1, r2)) ∧ Aside0 (Below w.heap.size w wr))
  case atStart => exact ⟨0, by omega, by omega, rfl, REST, ⟨zW HB.out⟩⟩
  case round =>
   clear REST HB
   obtain ⟨m, b7, hmg, rfl, REST, HB⟩ := hrel
   have H := REST.out
   clear REST
   by_cases hm : m < 8
   ·obtain ⟨g, hdrop, hidx⟩ := impl_cmpsOf.at m hm
    rw [hdrop] at H
    have hlt : (m : Int) < 8 := by omega
    replace H : ((strings_CutPrefix.f a0 g).bind fun t => if t.2 = true then (impl_partOf.f k t.1).bind fun p => if p.2.2.2.2.2 = true then (impl_wordCmps.f k g p.1 p.2.1 p.2.2.1 p.2.2.2.1 p.2.2.2.2.1).bind fun l => some (l, true) else some ([], false) else impl_cmpsOf.go k a0 (impl_cmpsOf.signs.drop (m + 1))) = some (r1, r2) := H
    replace H := Option.bind_eq_some_iff.mp H
    obtain ⟨⟨rest, has⟩, ht, H⟩ := H
    have CP := Aside0.mk ht
    clear ht hdrop
    cases has with
    | false =>
     replace H : impl_cmpsOf.go k a0 (impl_cmpsOf.signs.drop (m + 1)) = some (r1, r2) := H
     have RST := Aside0.mk H
     clear H
     go_wp2_with (first
      | (go_at_call 167; (with_reducible refine (strings_CutPrefix.calls a0 g rest false _ CP.out).mono ?_); rintro e w2 ⟨rfl, hd⟩; replace HB := zA (below_step (zW HB.out) (impl_cmpsOf.drawn hd)); clear hd))
     go_roundg (8 - (m + 1))
     case measure => omega
     case rel => exact ⟨m + 1, by omega, by omega, by go_num, RST, ⟨zW HB.out⟩⟩
    | true =>
     replace H : ((impl_partOf.f k rest).bind fun p => if p.2.2.2.2.2 = true then (impl_wordCmps.f k g p.1 p.2.1 p.2.2.1 p.2.2.2.1 p.2.2.2.2.1).bind fun l => some (l, true) else some ([], false)) = some (r1, r2) := H
     replace H := Option.bind_eq_some_iff.mp H
     obtain ⟨⟨va, vb, vc, vl, told, ok⟩, hp, H⟩ := H
     have PO := Aside0.mk hp
     clear hp
     cases ok with
     | false =>
      replace H : some (([] : List (S75)), false) = some (r1, r2) := H
      simp only [Option.some.injEq, Prod.mk.injEq] at H
      obtain ⟨rfl, rfl⟩ := H
      go_wp2_with (first
       | (go_at_call 167; (with_reducible refine (strings_CutPrefix.calls a0 g rest true _ CP.out).mono ?_); rintro e w2 ⟨rfl, hd⟩; replace HB := zA (below_step (zW HB.out) (impl_cmpsOf.drawn hd)); clear hd)
       | (go_at_call 168; (with_reducible refine (impl_partOf.calls k rest va vb vc vl told false _ ?hgw PO.out).mono ?_); (case hgw => exact GW.below HG.out (zW HB.out)); rintro e w3 ⟨v3, rfl, ho, hb⟩; have a1 := zA (below_step (zW HB.out) hb); have HP := zA (Kd.R_lower ho (below_size (zW HB.out))); clear HB; have HB := a1; clear a1 hb ho; obtain ⟨Ao, co, eo⟩ := Kd.R_slice HP.out; subst eo)
       | ((with_reducible refine zd 8 ?_); refine ze 8 32 #[.int .i64 0, .int .i64 0, .int .i64 0, .slice none 0 0] ?_; intro gv hg w4 hbox hb; have a1 := zA (below_step (zW HB.out) hb); have a2 := zA (Kd.R_types (Kd.R_below (zR HP.out) hb) hbox (by decide)); have BV := Aside0.mk hbox; have GV := zA ((by rw [hg]; exact below_size (zW HB.out)) : w.heap.size ≤ gv); clear HB HP; have HB := a1; have HP := a2; clear a1 a2 hb hbox hg; have hnv := trivial; have a7 := zc0 BV.out; have a8 := zF BV.out 0; have a9 := zc1 BV.out; have b0 := zF BV.out 1; have b1 := zc2 BV.out; have b2 := zF BV.out 2; have b3 := zc3 BV.out; have b4 := zF BV.out 3))
      go_ret2
      exact ⟨_, rfl, Kd.N_nil _ _ _ _ _, zW HB.out⟩
     | true =>
      replace H : ((impl_wordCmps.f k g va vb vc vl told).bind fun l => some (l, true)) = some (r1, r2) := H
      replace H := Option.bind_eq_some_iff.mp H
      obtain ⟨l, hl, H⟩ := H
      simp only [Option.some.injEq, Prod.mk.injEq] at H
      obtain ⟨rfl, rfl⟩ := H
      have WC := Aside0.mk hl
      clear hl
      go_wp2_with (first
       | (go_at_call 167; (with_reducible refine (strings_CutPrefix.calls a0 g rest true _ CP.out).mono ?_); rintro e w2 ⟨rfl, hd⟩; replace HB := zA (below_step (zW HB.out) (impl_cmpsOf.drawn hd)); clear hd)
       | (go_at_call 168; (with_reducible refine (impl_partOf.calls k rest va vb vc vl told true _ ?hgw PO.out).mono ?_); (case hgw => exact GW.below HG.out (zW HB.out)); rintro e w3 ⟨v3, rfl, ho, hb⟩; have a1 := zA (below_step (zW HB.out) hb); have HP := zA (Kd.R_lower ho (below_size (zW HB.out))); clear HB; have HB := a1; clear a1 hb ho; obtain ⟨Ao, co, eo⟩ := Kd.R_slice HP.out; subst eo)
       | ((with_reducible refine zd 8 ?_); refine ze 8 32 #[.int .i64 0, .int .i64 0, .int .i64 0, .slice none 0 0] ?_; intro gv hg w4 hbox hb; have a1 := zA (below_step (zW HB.out) hb); have a2 := zA (Kd.R_types (Kd.R_below (zR HP.out) hb) hbox (by decide)); have BV := Aside0.mk hbox; have GV := zA ((by rw [hg]; exact below_size (zW HB.out)) : w.heap.size ≤ gv); clear HB HP; have HB := a1; have HP := a2; clear a1 a2 hb hbox hg; have hnv := trivial; have a7 := zc0 BV.out; have a8 := zF BV.out 0; have a9 := zc1 BV.out; have b0 := zF BV.out 1; have b1 := zc2 BV.out; have b2 := zF BV.out 2; have b3 := zc3 BV.out; have b4 := zF BV.out 3))
      (with_reducible refine (impl_wordCmps.calls k g va vb vc (fun k_ => w.heap.size ≤ k_) Ao co vl told l _ ?side1 WC.out).mono ?_)
      (case side1 => exact Kd.R_V (Kd.R_mono (Kd.R_bound (ok := fun k_ => True ∧ k_ ≠ gv) (by (with_reducible repeat (first | apply Kd.R_alloc | apply Kd.R_drewN | apply Kd.R_drew | refine Kd.R_far ?_ (fun _ hk => hk.2) _)); exact HP.out)) (fun k_ hk => hk.2.1)))
      rintro e w6 ⟨v6, rfl, ho, hb⟩
      have HN := zA (Kd.N_mono (ok' := fun k_ => (w.heap.size ≤ k_)) (Kd.N_lower ho (below_size (zW HB.out))) (fun k_ hk => hk.elim id (fun h_ => Nat.le_trans (below_size (zW HB.out)) h_)))
      replace HB := zh HB hb
      clear ho hb
      go_wp2
      go_ret2
      exact ⟨_, rfl, zN HN.out, zW HB.out⟩
   ·obtain rfl : m = 8 := by omega
    replace H : some (([] : List (S75)), false) = some (r1, r2) := H
    simp only [Option.some.injEq, Prod.mk.injEq] at H
    obtain ⟨rfl, rfl⟩ := H
    have hlt : ¬ (((8 : Nat) : Int) < 8) := by omega
    go_wp2
    go_ret2
    exact ⟨_, rfl, Kd.N_nil _ _ _ _ _, zW HB.out⟩
/-! ### impl_listOf: function 82 -/
mutual
def impl_listOf.j0 : Nat → List ByteArray → Bool → Option ((List (S75)) × Bool)
 | 0, _, _ => none
 | k + 1, x4, b0 => if b0 = true then (if 0 < (x4.length : Int) then ((impl_ParseVer.f k (rdOf ByteArray.empty x4 0)).bind fun a2 => (if 2 < (x4.length : Int) then ((impl_ParseVer.f k (rdOf ByteArray.empty x4 2)).bind fun a3 => ((some (([(⟨4, (⟨a2.1, a2.2.1, a2.2.2.1, a2.2.2.2.1⟩ : S32)⟩ : S75), (⟨2, (⟨a3.1, a3.2.1, a3.2.2.1, a3.2.2.2.1⟩ : S32)⟩ : S75)] : List (S75)) : List (S75))).bind fun a7 => (if a2.2.2.2.2 = true then (some (a7, a3.2.2.2.2)) else (some (a7, false))))) else (none))) else (none)) else (impl_listOf.j1 k x4)
def impl_listOf.j1 : Nat → List ByteArray → Option ((List (S75)) × Bool)
 | 0, _ => none
 | k + 1, x4 => impl_listOf.l0 k ([] : List (S75)) x4 (x4.length : Int) 0
def impl_listOf.l0 : Nat → List (S75) → List ByteArray → Int → Int → Option ((List (S75)) × Bool)
 | 0, _, _, _, _ => none
 | k + 1, x9, a5, a8, a4 => if a4 < a8 then (if 0 ≤ a4 then (if a4 < (a5.length : Int) then ((impl_cmpsOf.f k (rdOf ByteArray.empty a5 a4)).bind fun a6 => (if a6.2 = true then (if x9.length + a6.1.length < 2513169434916 then (impl_listOf.l0 k (x9 ++ a6.1) a5 a8 (wrap64 (a4 + 1))) else (none)) else (some (([] : List (S75)), false)))) else (none)) else (none)) else (impl_listOf.l1 k x9 x9 (x9.length : Int) 0)
def impl_listOf.l1 : Nat → List (S75) → List (S75) → Int → Int → Option ((List (S75)) × Bool)
 | 0, _, _, _, _ => none
 | k + 1, x9, a1, a9, a0 => if a0 < a9 then (if 0 ≤ a0 then (if a0 < (a1.length : Int) then ((impl_VerOk.f k ((rd_T75 a1 a0).f1.f0) ((rd_T75 a1 a0).f1.f1) ((rd_T75 a1 a0).f1.f2) ((rd_T75 a1 a0).f1.f3)).bind fun b1 => (if b1 = true then (impl_listOf.l1 k x9 a1 a9 (wrap64 (a0 + 1))) else (some (([] : List (S75)), false)))) else (none)) else (none)) else (some (x9, decide ((x9.length : Int) ≤ 4)))
end
def impl_listOf.f (k : Nat) (a0 : ByteArray) : Option ((List (S75)) × Bool) := (strings_Trim.f a0 (⟨#[32]⟩ : ByteArray)).bind fun a2 => ((strings_Split.f a2 (⟨#[32]⟩ : ByteArray)).bind fun a1 => (if (a1.length : Int) = 3 then (if 1 < (a1.length : Int) then (impl_listOf.j0 k a1 ((rdOf ByteArray.empty a1 1).toList == ([45] : List UInt8))) else (none)) else (impl_listOf.j0 k a1 false)))
theorem impl_listOf.calls (k : Nat) (a0 : ByteArray) (r1 : List (S75)) (r2 : Bool) (w : World) (hG : GW w) (h : impl_listOf.f k a0 = some (r1, r2)) :
  Calls Tryz.prog 82 #[.string a0] w fun e w' => ∃ v5 : Value, e = .returned (.tuple #[v5, .bool r2]) ∧ Kd.N k75 75 w' w.heap.size (fun k_ => (w.heap.size ≤ k_)) v5 r1 ∧ Below w.heap.size w w' := by
 have C7 := Tryz.underlying32
 have C8 := Tryz.underlying75
 have HG := Aside0.mk hG
 clear hG
 have HB := zA (Below.refl w.heap.size w)
 unfold impl_listOf.f at h
 have H := h
 clear h
 replace H := zj H
 obtain ⟨j7, A2, H⟩ := H
 try dsimp only at H
 replace H := zj H
 obtain ⟨a1, A3, H⟩ := H
 try dsimp only at H
 have j8 := Aside0.mk H
 clear H
 go_enter Tryz.func82, Tryz.ntmps82
 go_upto_region 2 with (first | ((with_reducible refine zq 127 ?_); refine zg (some 17) Tryz.func127 #[.string a0, .string (⟨#[32]⟩ : ByteArray)] ?_; (with_reducible refine (strings_Trim.calls a0 (⟨#[32]⟩ : ByteArray) j7 _ A2.out).mono ?_); rintro e w' ⟨rfl, ⟨nd, rfl⟩⟩; refine ⟨_, rfl, ?_⟩) | ((with_reducible refine zq 81 ?_); refine zg (some 18) Tryz.func81 #[.string j7, .string (⟨#[32]⟩ : ByteArray)] ?_; (with_reducible refine (strings_Split.calls j7 (⟨#[32]⟩ : ByteArray) a1 _ ?side1 A3.out).mono ?_); (case side1 => exact GW.below HG.out (zB)); rintro e w5 ⟨v6, rfl, a9, hb⟩; refine ⟨_, rfl, ?_⟩; have h4 := zA (Kd.R_lower (Kd.R_newM (M := fun k_ => (w.heap.size ≤ k_)) a9 (below_size (zB)) (fun k_ h_ => h_)) (below_size (zB))); replace HB := zA (below_step (zB) hb); (try clear hb a9)))
 (try simp only [Act.put, zT])
 go_cut [27] (fun y1 wc => ∃ (kq : Nat) (j9 : Bool), y1 = .bool j9 ∧ Aside0 (impl_listOf.j0 kq a1 j9 = some (r1, r2)) ∧ Aside0 (kq ≤ k) ∧ Aside0 (Kd.R Kd.string 9 wc w.heap.size (fun k_ => (w.heap.size ≤ k_)) v6 a1) ∧ Aside0 (Below w.heap.size w wc))
 case first =>
  have H := j8.out
  clear j8
  replace H := zI1 H
  rcases H with ⟨c6, H⟩ | ⟨c6, H⟩
  ·have d9 := beq_iff_eq.mpr c6
   have h5 := bne_eq_false_iff_eq.mpr c6
   clear c6
   (first | rw [d9] | (simp only [i64_w, i32_w]; rw [d9]) | skip)
   replace H := zC0 H
   obtain ⟨c7, H⟩ := H
   have i7 := decide_eq_true c7
   have i8 : decide (1 < a1.length) = true := decide_eq_true (by omega)
   clear c7
   have H' := Aside0.mk H
   clear H
   obtain ⟨C9, D0, y2⟩ := Kd.R_slice h4.out
   subst y2
   have f8 : 0 ≤ (1 : Int) := (by omega)
   have f9 : 1 < (a1.length : Int) := zD
   obtain ⟨D1, y3, h3⟩ := Kd.at_string (Kd.R_reads' h4.out).2.2 1 f8 f9
   cases y3
   (try simp only [show (1 : Int).toNat = 1 from rfl, Nat.reduceMul, Nat.reduceEqDiff, Go.Addr.add, ↓reduceIte] at h3)
   have D2 : (1 < a1.length) = True := eq_true (by omega)
   (try rw [show ((1 : Int)).toNat = 1 from rfl] at h3)
   replace f8 := eq_true f8
   replace f9 := eq_true f9
   go_wp2
   go_meet
   case rel => exact ⟨_, (((rdOf ByteArray.empty a1 1).toList == ([45] : List UInt8))), zS, (by first | exact H' | (subst_vars; exact H')), ⟨by first | omega | exact Nat.le_refl _⟩, ⟨zR (Kd.R_mono h4.out (fun _ hk => hk.1))⟩, ⟨zB⟩⟩
  ·have d9 := beq_eq_false_iff_ne.mpr c6
   have h5 := bne_iff_ne.mpr c6
   (first | rw [d9] | (simp only [i64_w, i32_w]; rw [d9]) | skip)
   have H' := Aside0.mk H
   clear H
   obtain ⟨D3, D4, y4⟩ := Kd.R_slice h4.out
   subst y4
   go_wp2
   go_meet
   case rel => exact ⟨_, (false), zS, (by first | exact H' | (subst_vars; exact H')), ⟨by first | omega | exact Nat.le_refl _⟩, ⟨zR (Kd.R_mono h4.out (fun _ hk => hk.1))⟩, ⟨zB⟩⟩
 case rest =>
  clear j8
  try clear c1
  try clear p2
  try clear c6
  try clear d9
  try clear h5
  try clear p6
  try clear q6
  try clear hx6
  try clear qi6
  try clear c7
  try clear i7
  try clear i8
  try clear c8
  try clear h3
  try clear f8
  try clear f9
  obtain ⟨kq, j9, rfl, HA, h6, a3, HB⟩ := hcut
  cases kq with
  | zero => exact absurd HA.out (by simp [impl_listOf.j0])
  | succ h7 =>
   have H := HA.out
   clear HA
   simp only [impl_listOf.j0] at H
   have k0 := Aside0.mk H
   clear H
   go_upto_if 27 with (fail)
   go_cut [] (fun wc => ∃ (kq : Nat), Aside0 (impl_listOf.j1 kq a1 = some (r1, r2)) ∧ Aside0 (kq ≤ h7) ∧ Aside0 (Kd.R Kd.string 9 wc w.heap.size (fun k_ => (w.heap.size ≤ k_)) v6 a1) ∧ Aside0 (Below w.heap.size w wc))
   case first =>
    have H := k0.out
    clear k0
    replace H := zB0 H
    rcases H with ⟨rfl, H⟩ | ⟨rfl, H⟩
    ·replace H := zC0 H
     obtain ⟨h8, H⟩ := H
     have h9 := decide_eq_true h8
     have k1 : decide (0 < a1.length) = true := decide_eq_true (by omega)
     clear h8
     (first | rw [h9] | (simp only [i64_w, i32_w]; rw [h9]) | skip)
     replace H := zj H
     obtain ⟨⟨b6, b7, b8, b1, y5⟩, v7, H⟩ := H
     try dsimp only at H
     replace H := zC0 H
     obtain ⟨i0, H⟩ := H
     have k2 := decide_eq_true i0
     have k5 : decide (2 < a1.length) = true := decide_eq_true (by omega)
     clear i0
     replace H := zj H
     obtain ⟨⟨b9, c0, c9, b2, k6⟩, v8, H⟩ := H
     try dsimp only at H
     obtain ⟨x0, k7⟩ : ∃ y_ : List (S75), y_ = (([(⟨4, (⟨b6, b7, b8, b1⟩ : S32)⟩ : S75), (⟨2, (⟨b9, c0, c9, b2⟩ : S32)⟩ : S75)] : List (S75))) := ⟨_, rfl⟩
     replace H : (if y5 = true then (some (x0, k6)) else (some (x0, false))) = some (r1, r2) := zY k7 H
     have i9 := Aside0.mk k7
     clear k7
     replace H := zB0 H
     rcases H with ⟨rfl, H⟩ | ⟨rfl, H⟩
     ·simp only [Option.some.injEq, Prod.mk.injEq] at H
      obtain ⟨rfl, rfl⟩ := H
      obtain ⟨D5, e0, y6⟩ := Kd.R_slice a3.out
      subst y6
      have d5 : 0 ≤ (0 : Int) := (by omega)
      have d6 : 0 < (a1.length : Int) := zD
      obtain ⟨a7, k8, f4⟩ := Kd.at_string (Kd.R_reads' a3.out).2.2 0 d5 d6
      cases k8
      have y7 : (0 < a1.length) = True := eq_true (by omega)
      (try rw [show ((0 : Int)).toNat = 0 from rfl] at f4)
      (try rw [Addr.add_zero'] at f4)
      replace d5 := eq_true d5
      replace d6 := eq_true d6
      go_wp2_with (first | ((with_reducible refine zq 128 ?_); refine zg (some 32) Tryz.func128 #[.string (rdOf ByteArray.empty a1 0)] ?_; (with_reducible refine (impl_ParseVer.calls h7 (rdOf ByteArray.empty a1 0) b6 b7 b8 b1 true _ ?side1 v7.out).mono ?_); (case side1 => exact GW.below HG.out (zB)); rintro e D6 ⟨y8, rfl, a9, hb⟩; refine ⟨_, rfl, ?_⟩; have b0 := zA (Kd.R_lower (Kd.R_new' (Kd.R_newM (M := fun k_ => (w.heap.size ≤ k_)) a9 (below_size (zB)) (fun k_ h_ => h_)) (Kd.R_lt (zR a3.out))) (below_size (zB))); replace a3 := zA (Kd.R_elder' (zR a3.out) (Kd.R_base a9) hb); replace HB := zA (below_step (zB) hb); (try clear hb a9)) | ((with_reducible refine zd 5 ?_); refine ze 5 32 #[.int .i64 0, .int .i64 0, .int .i64 0, .slice none 0 0] ?_; intro a5 hg D7 hbox hb; replace a3 := zr a3 hb; replace b0 := zr b0 hb; have a2 := zA (hbox); have y9 := zi HB hg; have z0 := zi HB hg; replace HB := zA (below_step (zB) hb); clear hb hbox hg; obtain ⟨k9, l2, l3, l4, l5, l6, l7, l8⟩ := ze4 a2.out; obtain ⟨g0, g1, z1⟩ := Kd.R_slice b0.out; subst z1; have d7 : 0 ≤ (2 : Int) := (by omega); have d8 : 2 < (a1.length : Int) := zD; obtain ⟨l9, m0, b3⟩ := Kd.at_string (Kd.R_reads' a3.out).2.2 2 d7 d8; obtain rfl : a7 = l9 := (by injection m0); (try simp only [show (2 : Int).toNat = 2 from rfl, Nat.reduceMul, Nat.reduceEqDiff, Go.Addr.add, ↓reduceIte] at b3); have z2 : (2 < a1.length) = True := eq_true (by omega); (try rw [show ((2 : Int)).toNat = 2 from rfl] at b3); have e1 : a7.block ≠ a5 := Kd.own_blk (Kd.R_ne a3.out a2.out (by decide)); have e2 : a7.block ≠ a5 := Kd.own_blk (Kd.R_ne a3.out a2.out (by decide)); have e3 : a7.block ≠ a5 := Kd.own_blk (Kd.R_ne a3.out a2.out (by decide)); have e4 : a7.block ≠ a5 := Kd.own_blk (Kd.R_ne a3.out a2.out (by decide)); replace b3 := (cell_far (p := ⟨a5, 0, none⟩) (by first | (rw [add_block]; exact e1) | (show (Addr.add _ _).block ≠ _; rw [add_block]; exact e1) | exact e1) (.int .i64 b6)).trans b3; replace b3 := (cell_far (p := ⟨a5, 1, none⟩) (by first | (rw [add_block]; exact e2) | (show (Addr.add _ _).block ≠ _; rw [add_block]; exact e2) | exact e2) (.int .i64 b7)).trans b3; replace b3 := (cell_far (p := ⟨a5, 2, none⟩) (by first | (rw [add_block]; exact e3) | (show (Addr.add _ _).block ≠ _; rw [add_block]; exact e3) | exact e3) (.int .i64 b8)).trans b3; replace b3 := (cell_far (p := ⟨a5, 3, none⟩) (by first | (rw [add_block]; exact e4) | (show (Addr.add _ _).block ≠ _; rw [add_block]; exact e4) | exact e4) (.slice g0 b1.length g1)).trans b3; clear e1; clear e2; clear e3; clear e4; replace d7 := eq_true d7; replace d8 := eq_true d8) | ((with_reducible refine zq 128 ?_); refine zg (some 39) Tryz.func128 #[.string (rdOf ByteArray.empty a1 2)] ?_; (with_reducible refine (impl_ParseVer.calls h7 (rdOf ByteArray.empty a1 2) b9 c0 c9 b2 k6 _ ?side1 v8.out).mono ?_); (case side1 => exact GW.below HG.out (zW HB.out)); rintro e D8 ⟨z3, rfl, a9, hb⟩; refine ⟨_, rfl, ?_⟩; have d0 := zA (Kd.R_lower (Kd.R_new' (Kd.R_new' (Kd.R_newM (M := fun k_ => (w.heap.size ≤ k_)) a9 (below_size (zW HB.out)) (fun k_ h_ => h_)) (Kd.R_lt (zR (zr4 a3.out a2.out)))) (Kd.R_lt (zR (zr4 b0.out a2.out)))) (below_size (zW HB.out))); replace a3 := zA (Kd.R_elder' (zR (zr4 a3.out a2.out)) (Kd.R_base a9) hb); replace b0 := zA (Kd.R_elder' (zR (zr4 b0.out a2.out)) (Kd.R_base a9) hb); replace a2 := zA (blk_below (zk4 a2.out) hb); replace HB := zh HB hb; (try clear hb a9)) | ((with_reducible refine zd 7 ?_); refine ze 7 32 #[.int .i64 0, .int .i64 0, .int .i64 0, .slice none 0 0] ?_; intro b4 hg z4 hbox hb; replace a3 := zr a3 hb; replace b0 := zr b0 hb; replace d0 := zr d0 hb; have a8 := zA (hbox); have z5 := zi HB hg; have z6 := zi HB hg; replace HB := zh HB hb; have m1 := zA (zL hg (zK a2.out)); have m2 := zA (zJ hg (zK a2.out)); replace a2 := zb a2 hb; clear hb hbox hg; have D9 := m2.out; have E0 := m1.out; obtain ⟨m3, m4, m5, m6, m7, m8, m9, n0⟩ := ze4 a8.out; obtain ⟨g2, g3, z7⟩ := Kd.R_slice d0.out; subst z7) | ((with_reducible refine gate_store (t := 32) (p := 7) rfl ?_); refine store_event (t := 32) (p := 7) (v := ?vo_w27) (w1 := ((((z4.setCell ⟨b4, 0, none⟩ (.int .i64 b9)).setCell ⟨b4, 1, none⟩ (.int .i64 c0)).setCell ⟨b4, 2, none⟩ (.int .i64 c9)).setCell ⟨b4, 3, none⟩ (.slice g2 b2.length g3))) ?hg ?ho ?hn ?hr ?_; (case ho => rfl); (case hg => rfl); (case hn => rfl); (case hr => first | (go_simp; done) | (go_simp; rfl)); intro j2 hw; replace a3 : Aside0 (Kd.R Kd.string 9 j2 w.heap.size (fun k_ => (w.heap.size ≤ k_) ∧ some k_ ≠ (.slice g0 b1.length g1 : Value).ownBlock ∧ some k_ ≠ (.slice g2 b2.length g3 : Value).ownBlock) (.slice (some a7) a1.length e0) a1) := ⟨(by rw [hw]; exact (zR (Kd.R_mono (zr4 a3.out a8.out) (fun _ hk => ⟨hk.1.1, ⟨hk.1.2, hk.2⟩⟩))))⟩; replace b0 : Aside0 (Kd.R Kd.string 9 j2 w.heap.size (fun k_ => (w.heap.size ≤ k_) ∧ some k_ ≠ (.slice (some a7) a1.length e0 : Value).ownBlock ∧ some k_ ≠ (.slice g2 b2.length g3 : Value).ownBlock) (.slice g0 b1.length g1) b1) := ⟨(by rw [hw]; exact (zR (Kd.R_mono (zr4 b0.out a8.out) (fun _ hk => ⟨hk.1.1.1, ⟨hk.1.2, hk.2⟩⟩))))⟩; replace d0 : Aside0 (Kd.R Kd.string 9 j2 w.heap.size (fun k_ => (w.heap.size ≤ k_) ∧ some k_ ≠ (.slice (some a7) a1.length e0 : Value).ownBlock ∧ some k_ ≠ (.slice g0 b1.length g1 : Value).ownBlock) (.slice g2 b2.length g3) b2) := ⟨(by rw [hw]; exact (zR (Kd.R_mono (zr4 d0.out a8.out) (fun _ hk => ⟨hk.1.1.1, ⟨hk.1.2, hk.2⟩⟩))))⟩; replace a2 := zA (zh1 hw (zK a2.out)); replace a8 := zA (zh1 hw (zk4 a8.out)); replace HB := zA (zh2 hw (zW HB.out)); clear hw; obtain ⟨n1, n2, n3, n4, n5, n6, n7, n8⟩ := ze4 a2.out; obtain ⟨n9, o0, o1, o2, o3, o4, o5, o6⟩ := ze4 a8.out) | ((with_reducible refine gate_dst (N := 46) rfl ?_); refine Kd.N_lit k75 _ 75 ?hg (N' := 46) ?hd (xs := ([(⟨4, (⟨b6, b7, b8, b1⟩ : S32)⟩ : S75), (⟨2, (⟨b9, c0, c9, b2⟩ : S32)⟩ : S75)] : List (S75))) (inner := [.int .i64 4, .int .i64 b6, .int .i64 b7, .int .i64 b8, .slice g0 b1.length g1, .int .i64 2, .int .i64 b9, .int .i64 c0, .int .i64 c9, .slice g2 b2.length g3]) (ok := (fun k_ => (w.heap.size ≤ k_) ∧ some k_ ≠ (.slice (some a7) a1.length e0 : Value).ownBlock ∧ k_ ≠ a5 ∧ k_ ≠ b4)) ?hr ?hp (fun _ hk => hk) ((show ∀ k_, j2.heap.size ≤ k_ → (fun k_ => (w.heap.size ≤ k_) ∧ some k_ ≠ (.slice (some a7) a1.length e0 : Value).ownBlock ∧ k_ ≠ a5 ∧ k_ ≠ b4) k_ from fun k_ hk => ⟨(Nat.le_trans (below_size (zW HB.out)) hk), Kd.fresh' (Kd.R_lt (zR a3.out)) k_ hk, Kd.freshB (g := a5) (o := .cells #[.int .i64 b6, .int .i64 b7, .int .i64 b8, .slice g0 b1.length g1] 32 (0, 0)) (zK a2.out) k_ hk, Kd.freshB (g := b4) (o := .cells #[.int .i64 b9, .int .i64 c0, .int .i64 c9, .slice g2 b2.length g3] 32 (0, 0)) (zK a8.out) k_ hk⟩) _ (Nat.le_refl _)) (Below.refl _ _) (Nat.le_refl _) (by simp) ?_; (case hd => rfl); (case hg => rfl); (case hr => first | (go_simp; done) | (go_simp; rfl)); (case hp => exact (Reps.c5 (show Kd.FK k75 _ _ (⟨4, (⟨b6, b7, b8, b1⟩ : S32)⟩ : S75) [.int .i64 4, .int .i64 b6, .int .i64 b7, .int .i64 b8, .slice g0 b1.length g1] from (k75_mkF _ _ (⟨4, (⟨b6, b7, b8, b1⟩ : S32)⟩ : S75) (Kd.R_reads' (Kd.R_mono (ok' := (fun k_ => (w.heap.size ≤ k_) ∧ some k_ ≠ (.slice (some a7) a1.length e0 : Value).ownBlock ∧ k_ ≠ a5 ∧ k_ ≠ b4)) (Kd.R_types (Kd.R_types (b0.out) a2.out (by decide)) a8.out (by decide)) (fun k_ hk => ⟨hk.1.1.1, ⟨hk.1.1.2.1, ⟨hk.1.2, hk.2⟩⟩⟩))).2.1 (Kd.R_F (Kd.R_mono (ok' := (fun k_ => (w.heap.size ≤ k_) ∧ some k_ ≠ (.slice (some a7) a1.length e0 : Value).ownBlock ∧ k_ ≠ a5 ∧ k_ ≠ b4)) (Kd.R_types (Kd.R_types (b0.out) a2.out (by decide)) a8.out (by decide)) (fun k_ hk => ⟨hk.1.1.1, ⟨hk.1.1.2.1, ⟨hk.1.2, hk.2⟩⟩⟩))))) (Reps.c5 (show Kd.FK k75 _ _ (⟨2, (⟨b9, c0, c9, b2⟩ : S32)⟩ : S75) [.int .i64 2, .int .i64 b9, .int .i64 c0, .int .i64 c9, .slice g2 b2.length g3] from (k75_mkF _ _ (⟨2, (⟨b9, c0, c9, b2⟩ : S32)⟩ : S75) (Kd.R_reads' (Kd.R_mono (ok' := (fun k_ => (w.heap.size ≤ k_) ∧ some k_ ≠ (.slice (some a7) a1.length e0 : Value).ownBlock ∧ k_ ≠ a5 ∧ k_ ≠ b4)) (Kd.R_types (Kd.R_types (d0.out) a2.out (by decide)) a8.out (by decide)) (fun k_ hk => ⟨hk.1.1.1, ⟨hk.1.1.2.1, ⟨hk.1.2, hk.2⟩⟩⟩))).2.1 (Kd.R_F (Kd.R_mono (ok' := (fun k_ => (w.heap.size ≤ k_) ∧ some k_ ≠ (.slice (some a7) a1.length e0 : Value).ownBlock ∧ k_ ≠ a5 ∧ k_ ≠ b4)) (Kd.R_types (Kd.R_types (d0.out) a2.out (by decide)) a8.out (by decide)) (fun k_ hk => ⟨hk.1.1.1, ⟨hk.1.1.2.1, ⟨hk.1.2, hk.2⟩⟩⟩))))) (Reps.none _ _)))); intro z8 E1 i1 hb hg_ hnew_; clear hg_ hnew_; (first | rw [← i9.out] at i1 | (simp only [Int.reduceToNat] at i1; rw [← i9.out] at i1)); replace a3 := zr a3 hb; have o7 := zA (Kd.N_lower i1 (below_size (zW HB.out))); replace a2 := zb a2 hb; replace a8 := zb a8 hb; replace HB := zh HB hb; clear b0 d0; clear hb i1))
      go_ret2
      exact ⟨_, zE, zNt (Kd.N_mono o7.out (fun _ hk => hk.1)), zW HB.out⟩
     ·simp only [Option.some.injEq, Prod.mk.injEq] at H
      obtain ⟨rfl, rfl⟩ := H
      obtain ⟨E2, e5, z9⟩ := Kd.R_slice a3.out
      subst z9
      have d5 : 0 ≤ (0 : Int) := (by omega)
      have d6 : 0 < (a1.length : Int) := zD
      obtain ⟨a7, k8, f4⟩ := Kd.at_string (Kd.R_reads' a3.out).2.2 0 d5 d6
      cases k8
      have y7 : (0 < a1.length) = True := eq_true (by omega)
      (try rw [show ((0 : Int)).toNat = 0 from rfl] at f4)
      (try rw [Addr.add_zero'] at f4)
      replace d5 := eq_true d5
      replace d6 := eq_true d6
      go_wp2_with (first | ((with_reducible refine zq 128 ?_); refine zg (some 32) Tryz.func128 #[.string (rdOf ByteArray.empty a1 0)] ?_; (with_reducible refine (impl_ParseVer.calls h7 (rdOf ByteArray.empty a1 0) b6 b7 b8 b1 false _ ?side1 v7.out).mono ?_); (case side1 => exact GW.below HG.out (zB)); rintro e E3 ⟨y8, rfl, a9, hb⟩; refine ⟨_, rfl, ?_⟩; have b0 := zA (Kd.R_lower (Kd.R_new' (Kd.R_newM (M := fun k_ => (w.heap.size ≤ k_)) a9 (below_size (zB)) (fun k_ h_ => h_)) (Kd.R_lt (zR a3.out))) (below_size (zB))); replace a3 := zA (Kd.R_elder' (zR a3.out) (Kd.R_base a9) hb); replace HB := zA (below_step (zB) hb); (try clear hb a9)) | ((with_reducible refine zd 5 ?_); refine ze 5 32 #[.int .i64 0, .int .i64 0, .int .i64 0, .slice none 0 0] ?_; intro a5 hg E4 hbox hb; replace a3 := zr a3 hb; replace b0 := zr b0 hb; have a2 := zA (hbox); have y9 := zi HB hg; have z0 := zi HB hg; replace HB := zA (below_step (zB) hb); clear hb hbox hg; obtain ⟨o8, o9, p0, p1, p3, p4, p5, p7⟩ := ze4 a2.out; obtain ⟨g4, g5, A0⟩ := Kd.R_slice b0.out; subst A0; have d7 : 0 ≤ (2 : Int) := (by omega); have d8 : 2 < (a1.length : Int) := zD; obtain ⟨l9, m0, b3⟩ := Kd.at_string (Kd.R_reads' a3.out).2.2 2 d7 d8; obtain rfl : a7 = l9 := (by injection m0); (try simp only [show (2 : Int).toNat = 2 from rfl, Nat.reduceMul, Nat.reduceEqDiff, Go.Addr.add, ↓reduceIte] at b3); have z2 : (2 < a1.length) = True := eq_true (by omega); (try rw [show ((2 : Int)).toNat = 2 from rfl] at b3); have e1 : a7.block ≠ a5 := Kd.own_blk (Kd.R_ne a3.out a2.out (by decide)); have e2 : a7.block ≠ a5 := Kd.own_blk (Kd.R_ne a3.out a2.out (by decide)); have e3 : a7.block ≠ a5 := Kd.own_blk (Kd.R_ne a3.out a2.out (by decide)); have e4 : a7.block ≠ a5 := Kd.own_blk (Kd.R_ne a3.out a2.out (by decide)); replace b3 := (cell_far (p := ⟨a5, 0, none⟩) (by first | (rw [add_block]; exact e1) | (show (Addr.add _ _).block ≠ _; rw [add_block]; exact e1) | exact e1) (.int .i64 b6)).trans b3; replace b3 := (cell_far (p := ⟨a5, 1, none⟩) (by first | (rw [add_block]; exact e2) | (show (Addr.add _ _).block ≠ _; rw [add_block]; exact e2) | exact e2) (.int .i64 b7)).trans b3; replace b3 := (cell_far (p := ⟨a5, 2, none⟩) (by first | (rw [add_block]; exact e3) | (show (Addr.add _ _).block ≠ _; rw [add_block]; exact e3) | exact e3) (.int .i64 b8)).trans b3; replace b3 := (cell_far (p := ⟨a5, 3, none⟩) (by first | (rw [add_block]; exact e4) | (show (Addr.add _ _).block ≠ _; rw [add_block]; exact e4) | exact e4) (.slice g4 b1.length g5)).trans b3; clear e1; clear e2; clear e3; clear e4; replace d7 := eq_true d7; replace d8 := eq_true d8) | ((with_reducible refine zq 128 ?_); refine zg (some 39) Tryz.func128 #[.string (rdOf ByteArray.empty a1 2)] ?_; (with_reducible refine (impl_ParseVer.calls h7 (rdOf ByteArray.empty a1 2) b9 c0 c9 b2 k6 _ ?side1 v8.out).mono ?_); (case side1 => exact GW.below HG.out (zW HB.out)); rintro e E5 ⟨z3, rfl, a9, hb⟩; refine ⟨_, rfl, ?_⟩; have d0 := zA (Kd.R_lower (Kd.R_new' (Kd.R_new' (Kd.R_newM (M := fun k_ => (w.heap.size ≤ k_)) a9 (below_size (zW HB.out)) (fun k_ h_ => h_)) (Kd.R_lt (zR (zr4 a3.out a2.out)))) (Kd.R_lt (zR (zr4 b0.out a2.out)))) (below_size (zW HB.out))); replace a3 := zA (Kd.R_elder' (zR (zr4 a3.out a2.out)) (Kd.R_base a9) hb); replace b0 := zA (Kd.R_elder' (zR (zr4 b0.out a2.out)) (Kd.R_base a9) hb); replace a2 := zA (blk_below (zk4 a2.out) hb); replace HB := zh HB hb; (try clear hb a9)) | ((with_reducible refine zd 7 ?_); refine ze 7 32 #[.int .i64 0, .int .i64 0, .int .i64 0, .slice none 0 0] ?_; intro b4 hg A1 hbox hb; replace a3 := zr a3 hb; replace b0 := zr b0 hb; replace d0 := zr d0 hb; have a8 := zA (hbox); have z5 := zi HB hg; have z6 := zi HB hg; replace HB := zh HB hb; have m1 := zA (zL hg (zK a2.out)); have m2 := zA (zJ hg (zK a2.out)); replace a2 := zb a2 hb; clear hb hbox hg; have E6 := m2.out; have E7 := m1.out; obtain ⟨p8, p9, q0, q1, q2, q3, q4, q5⟩ := ze4 a8.out; obtain ⟨g6, g7, A4⟩ := Kd.R_slice d0.out; subst A4) | ((with_reducible refine gate_store (t := 32) (p := 7) rfl ?_); refine store_event (t := 32) (p := 7) (v := ?vo_w42) (w1 := ((((A1.setCell ⟨b4, 0, none⟩ (.int .i64 b9)).setCell ⟨b4, 1, none⟩ (.int .i64 c0)).setCell ⟨b4, 2, none⟩ (.int .i64 c9)).setCell ⟨b4, 3, none⟩ (.slice g6 b2.length g7))) ?hg ?ho ?hn ?hr ?_; (case ho => rfl); (case hg => rfl); (case hn => rfl); (case hr => first | (go_simp; done) | (go_simp; rfl)); intro j3 hw; replace a3 : Aside0 (Kd.R Kd.string 9 j3 w.heap.size (fun k_ => (w.heap.size ≤ k_) ∧ some k_ ≠ (.slice g4 b1.length g5 : Value).ownBlock ∧ some k_ ≠ (.slice g6 b2.length g7 : Value).ownBlock) (.slice (some a7) a1.length e5) a1) := ⟨(by rw [hw]; exact (zR (Kd.R_mono (zr4 a3.out a8.out) (fun _ hk => ⟨hk.1.1, ⟨hk.1.2, hk.2⟩⟩))))⟩; replace b0 : Aside0 (Kd.R Kd.string 9 j3 w.heap.size (fun k_ => (w.heap.size ≤ k_) ∧ some k_ ≠ (.slice (some a7) a1.length e5 : Value).ownBlock ∧ some k_ ≠ (.slice g6 b2.length g7 : Value).ownBlock) (.slice g4 b1.length g5) b1) := ⟨(by rw [hw]; exact (zR (Kd.R_mono (zr4 b0.out a8.out) (fun _ hk => ⟨hk.1.1.1, ⟨hk.1.2, hk.2⟩⟩))))⟩; replace d0 : Aside0 (Kd.R Kd.string 9 j3 w.heap.size (fun k_ => (w.heap.size ≤ k_) ∧ some k_ ≠ (.slice (some a7) a1.length e5 : Value).ownBlock ∧ some k_ ≠ (.slice g4 b1.length g5 : Value).ownBlock) (.slice g6 b2.length g7) b2) := ⟨(by rw [hw]; exact (zR (Kd.R_mono (zr4 d0.out a8.out) (fun _ hk => ⟨hk.1.1.1, ⟨hk.1.2, hk.2⟩⟩))))⟩; replace a2 := zA (zh1 hw (zK a2.out)); replace a8 := zA (zh1 hw (zk4 a8.out)); replace HB := zA (zh2 hw (zW HB.out)); clear hw; obtain ⟨q7, q8, q9, r0, r3, r4, r5, r6⟩ := ze4 a2.out; obtain ⟨r7, r8, r9, t0, t1, t2, t3, t4⟩ := ze4 a8.out) | ((with_reducible refine gate_dst (N := 46) rfl ?_); refine Kd.N_lit k75 _ 75 ?hg (N' := 46) ?hd (xs := ([(⟨4, (⟨b6, b7, b8, b1⟩ : S32)⟩ : S75), (⟨2, (⟨b9, c0, c9, b2⟩ : S32)⟩ : S75)] : List (S75))) (inner := [.int .i64 4, .int .i64 b6, .int .i64 b7, .int .i64 b8, .slice g4 b1.length g5, .int .i64 2, .int .i64 b9, .int .i64 c0, .int .i64 c9, .slice g6 b2.length g7]) (ok := (fun k_ => (w.heap.size ≤ k_) ∧ some k_ ≠ (.slice (some a7) a1.length e5 : Value).ownBlock ∧ k_ ≠ a5 ∧ k_ ≠ b4)) ?hr ?hp (fun _ hk => hk) ((show ∀ k_, j3.heap.size ≤ k_ → (fun k_ => (w.heap.size ≤ k_) ∧ some k_ ≠ (.slice (some a7) a1.length e5 : Value).ownBlock ∧ k_ ≠ a5 ∧ k_ ≠ b4) k_ from fun k_ hk => ⟨(Nat.le_trans (below_size (zW HB.out)) hk), Kd.fresh' (Kd.R_lt (zR a3.out)) k_ hk, Kd.freshB (g := a5) (o := .cells #[.int .i64 b6, .int .i64 b7, .int .i64 b8, .slice g4 b1.length g5] 32 (0, 0)) (zK a2.out) k_ hk, Kd.freshB (g := b4) (o := .cells #[.int .i64 b9, .int .i64 c0, .int .i64 c9, .slice g6 b2.length g7] 32 (0, 0)) (zK a8.out) k_ hk⟩) _ (Nat.le_refl _)) (Below.refl _ _) (Nat.le_refl _) (by simp) ?_; (case hd => rfl); (case hg => rfl); (case hr => first | (go_simp; done) | (go_simp; rfl)); (case hp => exact (Reps.c5 (show Kd.FK k75 _ _ (⟨4, (⟨b6, b7, b8, b1⟩ : S32)⟩ : S75) [.int .i64 4, .int .i64 b6, .int .i64 b7, .int .i64 b8, .slice g4 b1.length g5] from (k75_mkF _ _ (⟨4, (⟨b6, b7, b8, b1⟩ : S32)⟩ : S75) (Kd.R_reads' (Kd.R_mono (ok' := (fun k_ => (w.heap.size ≤ k_) ∧ some k_ ≠ (.slice (some a7) a1.length e5 : Value).ownBlock ∧ k_ ≠ a5 ∧ k_ ≠ b4)) (Kd.R_types (Kd.R_types (b0.out) a2.out (by decide)) a8.out (by decide)) (fun k_ hk => ⟨hk.1.1.1, ⟨hk.1.1.2.1, ⟨hk.1.2, hk.2⟩⟩⟩))).2.1 (Kd.R_F (Kd.R_mono (ok' := (fun k_ => (w.heap.size ≤ k_) ∧ some k_ ≠ (.slice (some a7) a1.length e5 : Value).ownBlock ∧ k_ ≠ a5 ∧ k_ ≠ b4)) (Kd.R_types (Kd.R_types (b0.out) a2.out (by decide)) a8.out (by decide)) (fun k_ hk => ⟨hk.1.1.1, ⟨hk.1.1.2.1, ⟨hk.1.2, hk.2⟩⟩⟩))))) (Reps.c5 (show Kd.FK k75 _ _ (⟨2, (⟨b9, c0, c9, b2⟩ : S32)⟩ : S75) [.int .i64 2, .int .i64 b9, .int .i64 c0, .int .i64 c9, .slice g6 b2.length g7] from (k75_mkF _ _ (⟨2, (⟨b9, c0, c9, b2⟩ : S32)⟩ : S75) (Kd.R_reads' (Kd.R_mono (ok' := (fun k_ => (w.heap.size ≤ k_) ∧ some k_ ≠ (.slice (some a7) a1.length e5 : Value).ownBlock ∧ k_ ≠ a5 ∧ k_ ≠ b4)) (Kd.R_types (Kd.R_types (d0.out) a2.out (by decide)) a8.out (by decide)) (fun k_ hk => ⟨hk.1.1.1, ⟨hk.1.1.2.1, ⟨hk.1.2, hk.2⟩⟩⟩))).2.1 (Kd.R_F (Kd.R_mono (ok' := (fun k_ => (w.heap.size ≤ k_) ∧ some k_ ≠ (.slice (some a7) a1.length e5 : Value).ownBlock ∧ k_ ≠ a5 ∧ k_ ≠ b4)) (Kd.R_types (Kd.R_types (d0.out) a2.out (by decide)) a8.out (by decide)) (fun k_ hk => ⟨hk.1.1.1, ⟨hk.1.1.2.1, ⟨hk.1.2, hk.2⟩⟩⟩))))) (Reps.none _ _)))); intro z8 E8 i2 hb hg_ hnew_; clear hg_ hnew_; (first | rw [← i9.out] at i2 | (simp only [Int.reduceToNat] at i2; rw [← i9.out] at i2)); replace a3 := zr a3 hb; have o7 := zA (Kd.N_lower i2 (below_size (zW HB.out))); replace a2 := zb a2 hb; replace a8 := zb a8 hb; replace HB := zh HB hb; clear b0 d0; clear hb i2))
      go_ret2
      exact ⟨_, zE, zNt (Kd.N_mono o7.out (fun _ hk => hk.1)), zW HB.out⟩
    ·have H' := Aside0.mk H
     clear H
     go_wp2
     go_meet
     case rel => exact ⟨_, (by first | exact H' | (subst_vars; exact H')), ⟨by have := h6.out; first | omega | exact Nat.le_refl _⟩, ⟨zR a3.out⟩, ⟨zB⟩⟩
   case rest =>
    clear k0
    try clear c1
    try clear c2
    try clear p2
    try clear c3
    try clear c5
    try clear c6
    try clear d9
    try clear h5
    try clear p6
    try clear q6
    try clear hx6
    try clear qi6
    try clear c7
    try clear i7
    try clear i8
    try clear c8
    try clear c11
    try clear h8
    try clear h9
    try clear k1
    try clear i0
    try clear k2
    try clear k5
    try clear c16
    try clear c24
    try clear c39
    try clear k9 l2 l3 l4 l5 l6 l7 l8
    try clear m3 m4 m5 m6 m7 m8 m9 n0
    try clear n1 n2 n3 n4 n5 n6 n7 n8
    try clear n9 o0 o1 o2 o3 o4 o5 o6
    try clear o8 o9 p0 p1 p3 p4 p5 p7
    try clear p8 p9 q0 q1 q2 q3 q4 q5
    try clear q7 q8 q9 r0 r3 r4 r5 r6
    try clear r7 r8 r9 t0 t1 t2 t3 t4
    try clear h3
    try clear f4
    try clear b3
    try clear p2
    try clear p6
    try clear f8
    try clear d5
    try clear d7
    try clear q6
    try clear f9
    try clear d6
    try clear d8
    obtain ⟨kq, HA, j4, a3, HB⟩ := hcut
    cases kq with
    | zero => exact absurd HA.out (by simp [impl_listOf.j1])
    | succ x1 =>
     have H := HA.out
     clear HA
     simp only [impl_listOf.j1] at H
     have H' := Aside0.mk H
     clear H
     obtain ⟨x2, f5, A5⟩ := Kd.R_slice a3.out
     subst A5
     go_wp2
     go_loopg [9, 53] x1 (fun kq v9 A6 w' => ∃ (a4 : List (S75)) (d1 : Int), A6 = .int .i64 d1 ∧ Aside0 (impl_listOf.l0 kq a4 a1 (a1.length : Int) d1 = some (r1, r2)) ∧ Aside0 (kq ≤ x1) ∧ Aside0 (Kd.N k75 75 w' w.heap.size (fun k_ => (w.heap.size ≤ k_) ∧ some k_ ≠ ((.slice x2 a1.length f5) : Value).ownBlock) v9 a4) ∧ Aside0 (Kd.R Kd.string 9 w' w.heap.size (fun k_ => (w.heap.size ≤ k_)) (.slice x2 a1.length f5) a1) ∧ Aside0 (Below w.heap.size w w'))
     case atStart => exact ⟨(([] : List (S75))), (0), zS, H', ⟨Nat.le_refl _⟩, ⟨by first | exact Kd.S_nil _ _ _ _ _ | exact Kd.N_nil _ _ _ _ _ | exact Kd.V_nil _ _ _ _ _ | exact Kd.Q_nil _ _ _ _ _ | exact Kd.R_nil _ _ _ _ _⟩, ⟨zR a3.out⟩, ⟨zB⟩⟩
     case round =>
      clear H'
      try clear c1
      try clear c2
      try clear p2
      try clear c3
      try clear c5
      try clear c6
      try clear d9
      try clear h5
      try clear p6
      try clear q6
      try clear hx6
      try clear qi6
      try clear c7
      try clear i7
      try clear i8
      try clear c8
      try clear c11
      try clear h8
      try clear h9
      try clear k1
      try clear i0
      try clear k2
      try clear k5
      try clear c16
      try clear c24
      try clear c39
      try clear k9 l2 l3 l4 l5 l6 l7 l8
      try clear m3 m4 m5 m6 m7 m8 m9 n0
      try clear n1 n2 n3 n4 n5 n6 n7 n8
      try clear n9 o0 o1 o2 o3 o4 o5 o6
      try clear o8 o9 p0 p1 p3 p4 p5 p7
      try clear p8 p9 q0 q1 q2 q3 q4 q5
      try clear q7 q8 q9 r0 r3 r4 r5 r6
      try clear r7 r8 r9 t0 t1 t2 t3 t4
      try clear h3
      try clear f4
      try clear b3
      try clear p2
      try clear p6
      try clear f8
      try clear d5
      try clear d7
      try clear q6
      try clear f9
      try clear d6
      try clear d8
      obtain ⟨a4, d1, rfl, HA, j5, b5, d4, HB⟩ := hrel
      cases gk with
      | zero => exact absurd HA.out (by simp [impl_listOf.l0])
      | succ k3 =>
       have H := HA.out
       clear HA
       simp only [impl_listOf.l0] at H
       replace H := zI0 H
       rcases H with ⟨x3, H⟩ | ⟨x3, H⟩
       ·replace H := zD0 H
        obtain ⟨A7, H⟩ := H
        replace H := zD0 H
        obtain ⟨A8, H⟩ := H
        replace H := zj H
        obtain ⟨⟨j6, E9⟩, x4, H⟩ := H
        try dsimp only at H
        replace H := zB0 H
        rcases H with ⟨rfl, H⟩ | ⟨rfl, H⟩
        ·replace H := zC0 H
         obtain ⟨t5, H⟩ := H
         have A9 := Aside0.mk t5
         clear t5
         obtain ⟨x5, t6⟩ : ∃ y_ : List (S75), y_ = (a4 ++ j6) := ⟨_, rfl⟩
         replace H : (impl_listOf.l0 k3 x5 a1 (a1.length : Int) (wrap64 (d1 + 1))) = some (r1, r2) := zY t6 H
         have B0 := Aside0.mk t6
         clear t6
         have H' := Aside0.mk H
         clear H
         have f6 : 0 ≤ (d1 : Int) := zD
         have f7 : d1 < (a1.length : Int) := zD
         obtain ⟨g8, t7, x6⟩ := Kd.at_string (Kd.R_reads' d4.out).2.2 d1 f6 f7
         cases t7
         replace f6 := eq_true f6
         replace f7 := eq_true f7
         go_wp2_with (first | ((with_reducible refine zq 129 ?_); refine zg (some 59) Tryz.func129 #[.string (rdOf ByteArray.empty a1 d1)] ?_; (with_reducible refine (impl_cmpsOf.calls k3 (rdOf ByteArray.empty a1 d1) j6 true _ ?side1 x4.out).mono ?_); (case side1 => exact GW.below HG.out (zB)); rintro e F0 ⟨B1, rfl, a9, hb⟩; refine ⟨_, rfl, ?_⟩; have i3 := zA (Kd.N_lower (Kd.N_mono (ok' := fun k_ => (w.heap.size ≤ k_) ∧ some k_ ≠ (u9 : Value).ownBlock ∧ some k_ ≠ (.slice (some g8) a1.length f5 : Value).ownBlock) a9 (fun k_ hk_ => ⟨(Nat.le_trans (below_size (zB)) hk_), (Kd.fresh' (Kd.N_lt (zN b5.out)) k_ hk_), (Kd.fresh' (Kd.R_lt (zR d4.out)) k_ hk_)⟩)) (below_size (zB))); replace b5 := zA (Kd.N_elder' (zN b5.out) (Kd.N_base a9) hb); replace d4 := zr d4 hb; replace HB := zA (below_step (zB) hb); (try clear hb a9); obtain ⟨F1, F2, B2⟩ := Kd.N_slice i3.out; subst B2) | ((with_reducible refine gate_builtin (b := .append) (xs := #[.tmp 64, .tmp 65]) rfl ?_); at_builtin; refine Kd.N_append_rows k75 (w0 := w) w.heap.size rfl (.tmp 64) (.tmp 65) 108 75 (.agg #[(.int .i64 0), (.int .i64 0), (.int .i64 0), (.int .i64 0), (.slice none 0 0)]) 56 rfl Tryz.underlying108 info75 rfl (by decide) (by omega) u9 a4 j6 _ _ _ (fun k_ => (w.heap.size ≤ k_) ∧ some k_ ≠ (.slice (some g8) a1.length f5 : Value).ownBlock) (fun k_ => ((fun k_ => (w.heap.size ≤ k_) ∧ some k_ ≠ (.slice (some g8) a1.length f5 : Value).ownBlock)) k_ ∧ some k_ ≠ (u9 : Value).ownBlock) rfl rfl ?aO ?aR (fun _ hk => hk) ?aF ?aB ?aS ?aL ?_; (case aR => exact (by skip; exact Kd.N_F (Kd.N_mono (ok' := (fun k_ => ((fun k_ => (w.heap.size ≤ k_) ∧ some k_ ≠ (.slice (some g8) a1.length f5 : Value).ownBlock)) k_ ∧ some k_ ≠ (u9 : Value).ownBlock)) (i3.out) (fun k_ hk => ⟨⟨hk.1, hk.2.2⟩, hk.2.1⟩)))); (case aB => exact (zB)); (case aF => exact (fun k_ hk => ⟨(Nat.le_trans (below_size (zB)) hk), Kd.fresh' (Kd.R_lt (zR d4.out)) k_ hk⟩)); (case aO => exact (zNt (Kd.N_mono b5.out (fun _ hk => ⟨hk.1.1, hk.1.2⟩)))); (case aS => exact (below_size (zB))); (case aL => have := A9.out; omega); intro F3 F4 ho hb hg hat; rw [← B0.out] at ho; replace d4 := zA (Kd.R_over' (zR d4.out) (Kd.N_typed (zN b5.out)) (by decide) hg); replace i3 := zA (Kd.N_afterv (ok := (fun k_ => (w.heap.size ≤ k_) ∧ some k_ ≠ (.slice (some g8) a1.length f5 : Value).ownBlock)) (zNt (Kd.N_mono i3.out (fun _ hk => ⟨⟨hk.1, hk.2.2⟩, hk.2.1⟩))) hg hat); replace HB := zA (hb); have B3 := zA (ho); clear b5; clear ho hb hg hat))
         go_roundg k3
         case measure => have := h6.out; have := j4.out; have := j5.out; omega
         case rel => exact ⟨(x5), (wrap64 (d1 + 1)), zS, H', ⟨by have := h6.out; have := j4.out; have := j5.out; omega⟩, ⟨zN B3.out⟩, ⟨zR d4.out⟩, ⟨zB⟩⟩
        ·simp only [Option.some.injEq, Prod.mk.injEq] at H
         obtain ⟨rfl, rfl⟩ := H
         have f6 : 0 ≤ (d1 : Int) := zD
         have f7 : d1 < (a1.length : Int) := zD
         obtain ⟨g8, t7, x6⟩ := Kd.at_string (Kd.R_reads' d4.out).2.2 d1 f6 f7
         cases t7
         replace f6 := eq_true f6
         replace f7 := eq_true f7
         go_wp2_with (first | ((with_reducible refine zq 129 ?_); refine zg (some 59) Tryz.func129 #[.string (rdOf ByteArray.empty a1 d1)] ?_; (with_reducible refine (impl_cmpsOf.calls k3 (rdOf ByteArray.empty a1 d1) j6 false _ ?side1 x4.out).mono ?_); (case side1 => exact GW.below HG.out (zB)); rintro e F5 ⟨B1, rfl, a9, hb⟩; refine ⟨_, rfl, ?_⟩; have i3 := zA (Kd.N_lower (Kd.N_mono (ok' := fun k_ => (w.heap.size ≤ k_) ∧ some k_ ≠ (u9 : Value).ownBlock ∧ some k_ ≠ (.slice (some g8) a1.length f5 : Value).ownBlock) a9 (fun k_ hk_ => ⟨(Nat.le_trans (below_size (zB)) hk_), (Kd.fresh' (Kd.N_lt (zN b5.out)) k_ hk_), (Kd.fresh' (Kd.R_lt (zR d4.out)) k_ hk_)⟩)) (below_size (zB))); replace b5 := zA (Kd.N_elder' (zN b5.out) (Kd.N_base a9) hb); replace d4 := zr d4 hb; replace HB := zA (below_step (zB) hb); (try clear hb a9)))
         go_ret2
         exact ⟨_, zE, by first | exact Kd.S_nil _ _ _ _ _ | exact Kd.N_nil _ _ _ _ _ | exact Kd.V_nil _ _ _ _ _ | exact Kd.Q_nil _ _ _ _ _ | exact Kd.R_nil _ _ _ _ _, zB⟩
       ·have H' := Aside0.mk H
        clear H
        obtain ⟨x7, x8, B4⟩ := Kd.N_slice b5.out
        subst B4
        go_wp2
        go_loopg [70] k3 (fun kq B5 w' => ∃ (a6 : Int), B5 = .int .i64 a6 ∧ Aside0 (impl_listOf.l1 kq a4 a4 (a4.length : Int) a6 = some (r1, r2)) ∧ Aside0 (kq ≤ k3) ∧ Aside0 (Kd.N k75 75 w' w.heap.size (fun k_ => (w.heap.size ≤ k_)) (.slice x7 a4.length x8) a4) ∧ Aside0 (Kd.N k75 75 w' w.heap.size (fun k_ => (w.heap.size ≤ k_)) (.slice x7 a4.length x8) a4) ∧ Aside0 (Below w.heap.size w w'))
        case atStart => exact ⟨(0), zS, H', ⟨Nat.le_refl _⟩, ⟨zNt (Kd.N_mono b5.out (fun _ hk => hk.1))⟩, ⟨zNt (Kd.N_mono b5.out (fun _ hk => hk.1))⟩, ⟨zB⟩⟩
        case round =>
         clear H'
         try clear c1
         try clear c2
         try clear p2
         try clear c3
         try clear c4
         try clear c5
         try clear c6
         try clear d9
         try clear h5
         try clear p6
         try clear q6
         try clear hx6
         try clear qi6
         try clear c7
         try clear i7
         try clear i8
         try clear c8
         try clear c11
         try clear h8
         try clear h9
         try clear k1
         try clear i0
         try clear k2
         try clear k5
         try clear c16
         try clear c24
         try clear c39
         try clear c48
         try clear x3
         try clear c49
         try clear A7
         try clear c50
         try clear A8
         try clear c52
         try clear t5
         try clear k9 l2 l3 l4 l5 l6 l7 l8
         try clear m3 m4 m5 m6 m7 m8 m9 n0
         try clear n1 n2 n3 n4 n5 n6 n7 n8
         try clear n9 o0 o1 o2 o3 o4 o5 o6
         try clear o8 o9 p0 p1 p3 p4 p5 p7
         try clear p8 p9 q0 q1 q2 q3 q4 q5
         try clear q7 q8 q9 r0 r3 r4 r5 r6
         try clear r7 r8 r9 t0 t1 t2 t3 t4
         try clear h3
         try clear f4
         try clear b3
         try clear x6
         try clear p2
         try clear p6
         try clear f8
         try clear d5
         try clear d7
         try clear f6
         try clear q6
         try clear f9
         try clear d6
         try clear d8
         try clear f7
         obtain ⟨a6, rfl, HA, x9, b5, d2, HB⟩ := hrel
         cases gk with
         | zero => exact absurd HA.out (by simp [impl_listOf.l1])
         | succ k4 =>
          have H := HA.out
          clear HA
          simp only [impl_listOf.l1] at H
          replace H := zI0 H
          rcases H with ⟨B6, H⟩ | ⟨B6, H⟩
          ·replace H := zD0 H
           obtain ⟨F6, H⟩ := H
           replace H := zD0 H
           obtain ⟨F7, H⟩ := H
           replace H := zj H
           obtain ⟨F8, y0, H⟩ := H
           try dsimp only at H
           replace H := zB0 H
           rcases H with ⟨rfl, H⟩ | ⟨rfl, H⟩
           ·have H' := Aside0.mk H
            clear H
            have e6 : 0 ≤ (a6 : Int) := zD
            have e7 : a6 < (a4.length : Int) := zD
            obtain ⟨B7, t8, t9, v0, B8, B9, C0, C1, v1, i4, i5⟩ := at_T75 (Kd.N_reads' d2.out).2.2 a6 e6 e7
            cases v0
            obtain ⟨C2, v2, v3, i6⟩ := Kd.N_get d2.out z75 a6 e6 (by first | exact e7 | exact zD | (have e_ := (Kd.N_reads' d2.out).1; omega))
            obtain ⟨C3, C4, rfl, g9, h0⟩ := k75_openF v3
            have e8 := i6 4 _ rfl
            rw [add_field _ _ 4 (by omega)] at e8
            replace e8 := Option.some.inj (e8.symm.trans v1)
            injection e8 with hva_ hvn_ hvc_
            rw [hva_] at h0
            rw [hvc_] at g9
            have d3 := zA (show Kd.V Kd.string 9 _ w.heap.size _ _ ((rd_T75 a4 a6).f1.f3) from Kd.V_mk g9 h0)
            clear hva_ hvn_ hvc_ h0 g9
            clear i6 v2
            have e9 := Aside0.mk i5
            have v4 := Aside0.mk i4
            clear i5 i4
            replace e6 := eq_true e6
            replace e7 := eq_true e7
            go_wp2_with (first | ((with_reducible refine zd 15 ?_); refine ze 15 75 #[.int .i64 0, .int .i64 0, .int .i64 0, .int .i64 0, .slice none 0 0] ?_; intro h1 hg F9 hbox hb; replace b5 := zA (Kd.N_below (Kd.N_elderB (zN b5.out) h1 (Nat.le_of_eq hg.symm)) hb); replace d2 := zA (Kd.N_below (Kd.N_elderB (zN d2.out) h1 (Nat.le_of_eq hg.symm)) hb); replace d3 := zA (Kd.V_below (Kd.V_elderB (zV d3.out) h1 (Nat.le_of_eq hg.symm)) hb); replace e9 := zA (Kd.C_below (by repeat (first | (with_reducible exact e9.out) | (with_reducible refine Kd.C_alloc ?_ _) | (with_reducible refine Kd.C_drewN ?_ _) | (with_reducible refine Kd.C_drew ?_) | exact e9.out)) hb); have h2 := zA (hbox); have C5 := zi HB hg; have C6 := zi HB hg; replace HB := zA (below_step (zB) hb); clear hb hbox hg; obtain ⟨G0, G1, G2, G3, G4, G5, G6, G7, G8, G9⟩ := ze5 h2.out) | ((with_reducible refine zq 71 ?_); refine zg (some 76) Tryz.func71 #[.agg #[.int .i64 ((rd_T75 a4 a6).f1.f0), .int .i64 ((rd_T75 a4 a6).f1.f1), .int .i64 ((rd_T75 a4 a6).f1.f2), .slice t8 ((rd_T75 a4 a6).f1.f3).length t9]] ?_; (with_reducible refine (impl_VerOk.calls k4 ((rd_T75 a4 a6).f1.f0) ((rd_T75 a4 a6).f1.f1) ((rd_T75 a4 a6).f1.f2) _ _ ((rd_T75 a4 a6).f1.f3) true _ ?side1 ?side2 y0.out).mono ?_); (case side1 => repeat (first | exact ((Kd.V_reads' (zVt (zv5 d3.out (fun _ hk => hk.2)))).2.2) | (with_reducible refine Kd.C_alloc ?_ _) | (with_reducible refine Kd.C_drewN ?_ _) | (with_reducible refine Kd.C_drew ?_))); (case side2 => exact v4.out); rintro e I0 ⟨rfl, hb⟩; refine ⟨_, rfl, ?_⟩; replace b5 := zA (Kd.N_below (zNt (zn5 b5.out (fun _ hk => hk.2))) hb); replace d2 := zA (Kd.N_below (zNt (zn5 d2.out (fun _ hk => hk.2))) hb); replace e9 := zA (Kd.C_below ((Kd.V_reads' (zVt (zv5 d3.out (fun _ hk => hk.2)))).2.2) hb); replace d3 := zA (Kd.V_below (zVt (zv5 d3.out (fun _ hk => hk.2))) hb); replace h2 := zA (blk_below (zk5 h2.out) hb); replace HB := zh HB hb; (try clear hb)))
            go_roundg k4
            case measure => have := h6.out; have := j4.out; have := j5.out; have := x9.out; omega
            case rel => exact ⟨(wrap64 (a6 + 1)), zS, H', ⟨by have := h6.out; have := j4.out; have := j5.out; have := x9.out; omega⟩, ⟨zNt (Kd.N_mono b5.out (fun _ hk => hk.1))⟩, ⟨zNt (Kd.N_mono d2.out (fun _ hk => hk.1))⟩, ⟨zW HB.out⟩⟩
           ·simp only [Option.some.injEq, Prod.mk.injEq] at H
            obtain ⟨rfl, rfl⟩ := H
            have e6 : 0 ≤ (a6 : Int) := zD
            have e7 : a6 < (a4.length : Int) := zD
            obtain ⟨B7, t8, t9, v0, B8, B9, C0, C1, v1, i4, i5⟩ := at_T75 (Kd.N_reads' d2.out).2.2 a6 e6 e7
            cases v0
            obtain ⟨C2, v2, v3, i6⟩ := Kd.N_get d2.out z75 a6 e6 (by first | exact e7 | exact zD | (have e_ := (Kd.N_reads' d2.out).1; omega))
            obtain ⟨C3, C4, rfl, g9, h0⟩ := k75_openF v3
            have e8 := i6 4 _ rfl
            rw [add_field _ _ 4 (by omega)] at e8
            replace e8 := Option.some.inj (e8.symm.trans v1)
            injection e8 with hva_ hvn_ hvc_
            rw [hva_] at h0
            rw [hvc_] at g9
            have d3 := zA (show Kd.V Kd.string 9 _ w.heap.size _ _ ((rd_T75 a4 a6).f1.f3) from Kd.V_mk g9 h0)
            clear hva_ hvn_ hvc_ h0 g9
            clear i6 v2
            have e9 := Aside0.mk i5
            have v4 := Aside0.mk i4
            clear i5 i4
            replace e6 := eq_true e6
            replace e7 := eq_true e7
            go_wp2_with (first | ((with_reducible refine zd 15 ?_); refine ze 15 75 #[.int .i64 0, .int .i64 0, .int .i64 0, .int .i64 0, .slice none 0 0] ?_; intro h1 hg I1 hbox hb; replace b5 := zA (Kd.N_below (Kd.N_elderB (zN b5.out) h1 (Nat.le_of_eq hg.symm)) hb); replace d2 := zA (Kd.N_below (Kd.N_elderB (zN d2.out) h1 (Nat.le_of_eq hg.symm)) hb); replace d3 := zA (Kd.V_below (Kd.V_elderB (zV d3.out) h1 (Nat.le_of_eq hg.symm)) hb); replace e9 := zA (Kd.C_below (by repeat (first | (with_reducible exact e9.out) | (with_reducible refine Kd.C_alloc ?_ _) | (with_reducible refine Kd.C_drewN ?_ _) | (with_reducible refine Kd.C_drew ?_) | exact e9.out)) hb); have h2 := zA (hbox); have C5 := zi HB hg; have C6 := zi HB hg; replace HB := zA (below_step (zB) hb); clear hb hbox hg; obtain ⟨I2, I3, I4, I5, I6, I7, I8, I9, J0, J1⟩ := ze5 h2.out) | ((with_reducible refine zq 71 ?_); refine zg (some 76) Tryz.func71 #[.agg #[.int .i64 ((rd_T75 a4 a6).f1.f0), .int .i64 ((rd_T75 a4 a6).f1.f1), .int .i64 ((rd_T75 a4 a6).f1.f2), .slice t8 ((rd_T75 a4 a6).f1.f3).length t9]] ?_; (with_reducible refine (impl_VerOk.calls k4 ((rd_T75 a4 a6).f1.f0) ((rd_T75 a4 a6).f1.f1) ((rd_T75 a4 a6).f1.f2) _ _ ((rd_T75 a4 a6).f1.f3) false _ ?side1 ?side2 y0.out).mono ?_); (case side1 => repeat (first | exact ((Kd.V_reads' (zVt (zv5 d3.out (fun _ hk => hk.2)))).2.2) | (with_reducible refine Kd.C_alloc ?_ _) | (with_reducible refine Kd.C_drewN ?_ _) | (with_reducible refine Kd.C_drew ?_))); (case side2 => exact v4.out); rintro e J2 ⟨rfl, hb⟩; refine ⟨_, rfl, ?_⟩; replace b5 := zA (Kd.N_below (zNt (zn5 b5.out (fun _ hk => hk.2))) hb); replace d2 := zA (Kd.N_below (zNt (zn5 d2.out (fun _ hk => hk.2))) hb); replace e9 := zA (Kd.C_below ((Kd.V_reads' (zVt (zv5 d3.out (fun _ hk => hk.2)))).2.2) hb); replace d3 := zA (Kd.V_below (zVt (zv5 d3.out (fun _ hk => hk.2))) hb); replace h2 := zA (blk_below (zk5 h2.out) hb); replace HB := zh HB hb; (try clear hb)))
            go_ret2
            exact ⟨_, zE, by first | exact Kd.S_nil _ _ _ _ _ | exact Kd.N_nil _ _ _ _ _ | exact Kd.V_nil _ _ _ _ _ | exact Kd.Q_nil _ _ _ _ _ | exact Kd.R_nil _ _ _ _ _, zW HB.out⟩
          ·simp only [Option.some.injEq, Prod.mk.injEq] at H
           obtain ⟨rfl, rfl⟩ := H
           go_wp2
           go_ret2
           exact ⟨_, zE, zN b5.out, zB⟩
end Go.Proofs.YtpcdhoeoefoeoaaGreatDoor.PGC
