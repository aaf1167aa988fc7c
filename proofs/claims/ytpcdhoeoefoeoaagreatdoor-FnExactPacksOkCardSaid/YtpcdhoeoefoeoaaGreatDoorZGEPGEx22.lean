/- The walks of the functions that these laws reach, and what each comes to: printed by this session's program. -/
import Derived.Test.YtpcdhoeoefoeoaaGreatDoorZGEPGEx0
import Derived.Test.YtpcdhoeoefoeoaaGreatDoorZGEPGEx17
import Derived.Test.YtpcdhoeoefoeoaaGreatDoorZGEPGEx20
import Derived.Test.YtpcdhoeoefoeoaaGreatDoorZGESays
import Derived.Test.YtpcdhoeoefoeoaaGreatDoorZGERegN
import Derived.Test.YtpcdhoeoefoeoaaGreatDoorZGERegs
import Derived.Test.YtpcdhoeoefoeoaaGreatDoorZGEPGEx15
namespace Go.Proofs.YtpcdhoeoefoeoaaGreatDoor.PGE
open Go.RowKit YtpcdhoeoefoeoaaGreatDoorW.PrintWords YtpcdhoeoefoeoaaGreatDoorW.PrintLast YtpcdhoeoefoeoaaGreatDoorW.PrintMore
attribute [local go_sem high] Mine.str_gtr Mine.str_leq Mine.str_geq
attribute [local go_sem] max2_int min2_int max_two min_two max_three min_three max_four min_four   -- for this text's walks alone
set_option linter.unusedVariables false
set_option maxHeartbeats 8000000
set_option maxRecDepth 100000
set_option linter.unusedSimpArgs false
/-! ### impl_cmpsOf: function 129 -/
theorem impl_cmpsOf.drawn {w w' : World} (h : Drawn0 w w') : Below w.heap.size w w' := by
 obtain ⟨n_, e_⟩ := h.out
 rw [e_]
 exact pw_below_drewN (Below.refl _ _) n_
def impl_cmpsOf.signs : List ByteArray := [(⟨#[94]⟩ : ByteArray), (⟨#[126]⟩ : ByteArray), (⟨#[62, 61]⟩ : ByteArray), (⟨#[62]⟩ : ByteArray), (⟨#[60, 61]⟩ : ByteArray), (⟨#[60]⟩ : ByteArray), (⟨#[61]⟩ : ByteArray), (⟨#[]⟩ : ByteArray)]
def impl_cmpsOf.go (k : Nat) (a0 : ByteArray) : List ByteArray → Option ((List (S75)) × Bool)
 | [] => some ([], false)
 | g :: r => (strings_CutPrefix.f a0 g).bind fun t => if t.2 = true then (impl_partOf.f k t.1).bind fun p => if p.2.2.2.2.2 = true then (impl_wordCmps.f k g p.1 p.2.1 p.2.2.1 p.2.2.2.1 p.2.2.2.2.1).bind fun l => some (l, true) else some ([], false) else impl_cmpsOf.go k a0 r
def impl_cmpsOf.f (k : Nat) (a0 : ByteArray) : Option ((List (S75)) × Bool) := if a0.toList = ([42] : List UInt8) then some ([(⟨4, (⟨0, 0, 0, ([] : List ByteArray)⟩ : S32)⟩ : S75)], true) else impl_cmpsOf.go k a0 impl_cmpsOf.signs
theorem impl_cmpsOf.at (m : Nat) (hm : m < 8) : ∃ g, impl_cmpsOf.signs.drop m = g :: impl_cmpsOf.signs.drop (m + 1) ∧ ∀ W : World, (Instr.index 184 (.agg #[.string ⟨#[94]⟩, .string ⟨#[126]⟩, .string ⟨#[62, 61]⟩, .string ⟨#[62]⟩, .string ⟨#[60, 61]⟩, .string ⟨#[60]⟩, .string ⟨#[61]⟩, .string ⟨#[]⟩]) (.int .i64 (m : Int))).run Tryz.prog W = .ok (.string g) W := by
 match m, hm with
 | 0, _ => exact ⟨_, rfl, fun W => by kernel_rfl⟩
 | 1, _ => exact ⟨_, rfl, fun W => by kernel_rfl⟩
 | 2, _ => exact ⟨_, rfl, fun W => by kernel_rfl⟩
 | 3, _ => exact ⟨_, rfl, fun W => by kernel_rfl⟩
 | 4, _ => exact ⟨_, rfl, fun W => by kernel_rfl⟩
 | 5, _ => exact ⟨_, rfl, fun W => by kernel_rfl⟩
 | 6, _ => exact ⟨_, rfl, fun W => by kernel_rfl⟩
 | 7, _ => exact ⟨_, rfl, fun W => by kernel_rfl⟩
 | m + 8, h => omega
theorem impl_cmpsOf.calls (k : Nat) (a0 : ByteArray) (r1 : List (S75)) (r2 : Bool) (w : World) (hG : GW w) (h : impl_cmpsOf.f k a0 = some (r1, r2)) :
  Calls Tryz.prog 129 #[.string a0] w fun e w' => ∃ a3 : Value, e = .returned (.tuple #[a3, .bool r2]) ∧ Kd.N k75 75 w' w.heap.size (fun k_ => (w.heap.size ≤ k_)) a3 r1 ∧ Below w.heap.size w w' := by
 have hu_ := Tryz.underlying32
 have b5 := Tryz.underlying75
 have HG := zA hG
 have HB := zA (Below.refl w.heap.size w)
 clear hG
 unfold impl_cmpsOf.f at h
 by_cases c3 : a0.toList = ([42] : List UInt8)
 ·rw [if_pos c3] at h; have a5 := beq_iff_eq.mpr c3; clear c3
  simp only [Option.some.injEq, Prod.mk.injEq] at h
  obtain ⟨rfl, rfl⟩ := h
  go_enter Tryz.func129, Tryz.ntmps129
  go_wp2_with (first | ((with_reducible refine gate_dst (N := 14) rfl ?_); refine zNl k75 75 14 (xs := ([(⟨4, (⟨0, 0, 0, ([] : List ByteArray)⟩ : S32)⟩ : S75)] : List (S75))) (inner := [.int .i64 4, .int .i64 0, .int .i64 0, .int .i64 0, .slice none 0 0]) (ok := (fun k_ => (w.heap.size ≤ k_))) ((Reps.c5 (show Kd.FK k75 _ _ (⟨4, (⟨0, 0, 0, ([] : List ByteArray)⟩ : S32)⟩ : S75) [.int .i64 4, .int .i64 0, .int .i64 0, .int .i64 0, .slice none 0 0] from (k75_mkF _ _ (⟨4, (⟨0, 0, 0, ([] : List ByteArray)⟩ : S32)⟩ : S75) (Nat.le_refl _) (Kd.F_nil _ _ _))) (Reps.none _ _))) (fun k_ hk => (Nat.le_trans (below_size (zW HB.out)) hk)) ?_; intro b6 w4 a4 hb hg_ hnew_; clear hg_ hnew_; have HN := zA (Kd.N_lower a4 (below_size (zW HB.out))); replace HB := zh HB hb; clear hb a4))
  go_ret2
  exact ⟨_, rfl, zN HN.out, zW HB.out⟩
 rw [if_neg c3] at h
 have a5 := beq_eq_false_iff_ne.mpr c3
 have REST := zA h
 clear c3 h
 go_enter Tryz.func129, Tryz.ntmps129
 go_wp2
 go_loopg [16] 8 (fun gg a6 wr => ∃ m : Nat, m ≤ 8 ∧ 8 - m ≤ gg ∧ a6 = .int .i64 (m : Int) ∧ Aside0 (impl_cmpsOf.go k a0 (impl_cmpsOf.signs.drop m) = some (r1, r2)) ∧ Aside0 (Below w.heap.size w wr))
 case atStart => exact ⟨0, by omega, by omega, rfl, REST, ⟨zW HB.out⟩⟩
 case round =>
  clear REST HB; obtain ⟨m, b7, hmg, rfl, REST, HB⟩ := hrel; have H := REST.out; clear REST
  by_cases hm : m < 8
  ·obtain ⟨g, hdrop, hidx⟩ := impl_cmpsOf.at m hm; rw [hdrop] at H
   have hlt : (m : Int) < 8 := by omega
   replace H : ((strings_CutPrefix.f a0 g).bind fun t => if t.2 = true then (impl_partOf.f k t.1).bind fun p => if p.2.2.2.2.2 = true then (impl_wordCmps.f k g p.1 p.2.1 p.2.2.1 p.2.2.2.1 p.2.2.2.2.1).bind fun l => some (l, true) else some ([], false) else impl_cmpsOf.go k a0 (impl_cmpsOf.signs.drop (m + 1))) = some (r1, r2) := H; replace H := Option.bind_eq_some_iff.mp H; obtain ⟨⟨rest, has⟩, ht, H⟩ := H; have CP := zA ht; clear ht hdrop
   cases has with
   | false =>
    replace H : impl_cmpsOf.go k a0 (impl_cmpsOf.signs.drop (m + 1)) = some (r1, r2) := H; have RST := zA H; clear H
    go_wp2_with (first
     | (go_at_call 167; (with_reducible refine (strings_CutPrefix.calls a0 g rest false _ CP.out).mono ?_); rintro e w2 ⟨rfl, hd⟩; replace HB := zA (below_step (zW HB.out) (impl_cmpsOf.drawn hd)); clear hd))
    go_roundg (8 - (m + 1))
    case measure => omega
    case rel => exact ⟨m + 1, by omega, by omega, by go_num, RST, ⟨zW HB.out⟩⟩
   | true =>
    replace H : ((impl_partOf.f k rest).bind fun p => if p.2.2.2.2.2 = true then (impl_wordCmps.f k g p.1 p.2.1 p.2.2.1 p.2.2.2.1 p.2.2.2.2.1).bind fun l => some (l, true) else some ([], false)) = some (r1, r2) := H; replace H := Option.bind_eq_some_iff.mp H; obtain ⟨⟨va, vb, vc, vl, told, ok⟩, hp, H⟩ := H; have PO := zA hp; clear hp
    cases ok with
    | false =>
     replace H : some (([] : List (S75)), false) = some (r1, r2) := H; simp only [zU] at H; obtain ⟨rfl, rfl⟩ := H
     go_wp2_with (first
      | (go_at_call 167; (with_reducible refine (strings_CutPrefix.calls a0 g rest true _ CP.out).mono ?_); rintro e w2 ⟨rfl, hd⟩; replace HB := zA (below_step (zW HB.out) (impl_cmpsOf.drawn hd)); clear hd)
      | (go_at_call 168; (with_reducible refine (impl_partOf.calls k rest va vb vc vl told false _ ?hgw PO.out).mono ?_); (case hgw => exact GW.below HG.out (zW HB.out)); rintro e w3 ⟨v3, rfl, ho, hb⟩; have a1 := zA (below_step (zW HB.out) hb); have HP := zA (Kd.R_lower ho (below_size (zW HB.out))); clear HB; have HB := a1; clear a1 hb ho; obtain ⟨Ao, co, eo⟩ := Kd.R_slice HP.out; subst eo)
      | ((with_reducible refine zd 8 ?_); refine ze 8 32 #[.int .i64 0, .int .i64 0, .int .i64 0, .slice none 0 0] ?_; intro gv hg w4 hbox hb; have a1 := zA (below_step (zW HB.out) hb); have a2 := zA (Kd.R_types (Kd.R_below (zR HP.out) hb) hbox (by decide)); have BV := zA hbox; have GV := zA ((by rw [hg]; exact below_size (zW HB.out)) : w.heap.size ≤ gv); clear HB HP; have HB := a1; have HP := a2; clear a1 a2 hb hbox hg; have hnv := trivial; have a7 := zc0 BV.out; have a8 := zF BV.out 0; have a9 := zc1 BV.out; have b0 := zF BV.out 1; have b1 := zc2 BV.out; have b2 := zF BV.out 2; have b3 := zc3 BV.out; have b4 := zF BV.out 3))
     go_ret2
     exact ⟨_, rfl, Kd.N_nil _ _ _ _ _, zW HB.out⟩
    | true =>
     replace H : ((impl_wordCmps.f k g va vb vc vl told).bind fun l => some (l, true)) = some (r1, r2) := H; replace H := Option.bind_eq_some_iff.mp H; obtain ⟨l, hl, H⟩ := H; simp only [zU] at H; obtain ⟨rfl, rfl⟩ := H; have WC := zA hl; clear hl
     go_wp2_with (first
      | (go_at_call 167; (with_reducible refine (strings_CutPrefix.calls a0 g rest true _ CP.out).mono ?_); rintro e w2 ⟨rfl, hd⟩; replace HB := zA (below_step (zW HB.out) (impl_cmpsOf.drawn hd)); clear hd)
      | (go_at_call 168; (with_reducible refine (impl_partOf.calls k rest va vb vc vl told true _ ?hgw PO.out).mono ?_); (case hgw => exact GW.below HG.out (zW HB.out)); rintro e w3 ⟨v3, rfl, ho, hb⟩; have a1 := zA (below_step (zW HB.out) hb); have HP := zA (Kd.R_lower ho (below_size (zW HB.out))); clear HB; have HB := a1; clear a1 hb ho; obtain ⟨Ao, co, eo⟩ := Kd.R_slice HP.out; subst eo)
      | ((with_reducible refine zd 8 ?_); refine ze 8 32 #[.int .i64 0, .int .i64 0, .int .i64 0, .slice none 0 0] ?_; intro gv hg w4 hbox hb; have a1 := zA (below_step (zW HB.out) hb); have a2 := zA (Kd.R_types (Kd.R_below (zR HP.out) hb) hbox (by decide)); have BV := zA hbox; have GV := zA ((by rw [hg]; exact below_size (zW HB.out)) : w.heap.size ≤ gv); clear HB HP; have HB := a1; have HP := a2; clear a1 a2 hb hbox hg; have hnv := trivial; have a7 := zc0 BV.out; have a8 := zF BV.out 0; have a9 := zc1 BV.out; have b0 := zF BV.out 1; have b1 := zc2 BV.out; have b2 := zF BV.out 2; have b3 := zc3 BV.out; have b4 := zF BV.out 3))
     (with_reducible refine (impl_wordCmps.calls k g va vb vc (fun k_ => w.heap.size ≤ k_) Ao co vl told l _ ?s1 WC.out).mono ?_)
     (case s1 => exact Kd.R_V (Kd.R_mono (Kd.R_bound (ok := fun k_ => True ∧ k_ ≠ gv) (by (with_reducible repeat (first | apply Kd.R_alloc | apply Kd.R_drewN | apply Kd.R_drew | refine Kd.R_far ?_ (fun _ hk => hk.2) _)); exact HP.out)) (fun k_ hk => hk.2.1)))
     rintro e w6 ⟨v6, rfl, ho, hb⟩
     have HN := zA (Kd.N_mono (ok' := fun k_ => (w.heap.size ≤ k_)) (Kd.N_lower ho (below_size (zW HB.out))) (fun k_ hk => hk.elim id (fun h_ => Nat.le_trans (below_size (zW HB.out)) h_))); replace HB := zh HB hb; clear ho hb
     go_wp2
     go_ret2
     exact ⟨_, rfl, zN HN.out, zW HB.out⟩
  obtain rfl : m = 8 := by omega
  replace H : some (([] : List (S75)), false) = some (r1, r2) := H; simp only [zU] at H; obtain ⟨rfl, rfl⟩ := H
  have hlt : ¬ (((8 : Nat) : Int) < 8) := by omega
  go_wp2
  go_ret2
  exact ⟨_, rfl, Kd.N_nil _ _ _ _ _, zW HB.out⟩
/-! ### impl_listOf: function 82 -/
mutual
def impl_listOf.j0 : Nat → List ByteArray → Bool → Option ((List (S75)) × Bool)
 | 0, _, _ => none
 | k + 1, x4, b0 => if b0 = true then (if 0 < (x4.length : Int) then ((impl_ParseVer.f k (rdOf ByteArray.empty x4 0)).bind fun a2 => (if 2 < (x4.length : Int) then ((impl_ParseVer.f k (rdOf ByteArray.empty x4 2)).bind fun a3 => ((some (([(⟨4, (⟨a2.1, a2.2.1, a2.2.2.1, a2.2.2.2.1⟩ : S32)⟩ : S75), (⟨2, (⟨a3.1, a3.2.1, a3.2.2.1, a3.2.2.2.1⟩ : S32)⟩ : S75)] : List (S75)) : List (S75))).bind fun a7 => (if a2.2.2.2.2 = true then (some (a7, a3.2.2.2.2)) else (some (a7, false))))) else (none))) else (none)) else (impl_listOf.j1 k x4)
def impl_listOf.j1 : Nat → List ByteArray → Option ((List (S75)) × Bool)
 | 0, _ => none
 | k + 1, x4 => impl_listOf.l0 k ([] : List (S75)) x4 (x4.length : Int) 0
def impl_listOf.l0 : Nat → List (S75) → List ByteArray → Int → Int → Option ((List (S75)) × Bool)
 | 0, _, _, _, _ => none
 | k + 1, x9, a5, a8, a4 => if a4 < a8 then (if 0 ≤ a4 then (if a4 < (a5.length : Int) then ((impl_cmpsOf.f k (rdOf ByteArray.empty a5 a4)).bind fun a6 => (if a6.2 = true then (if x9.length + a6.1.length < 2513169434916 then (impl_listOf.l0 k (x9 ++ a6.1) a5 a8 (wrap64 (a4 + 1))) else (none)) else (some (([] : List (S75)), false)))) else (none)) else (none)) else (impl_listOf.l1 k x9 x9 (x9.length : Int) 0)
def impl_listOf.l1 : Nat → List (S75) → List (S75) → Int → Int → Option ((List (S75)) × Bool)
 | 0, _, _, _, _ => none
 | k + 1, x9, a1, a9, a0 => if a0 < a9 then (if 0 ≤ a0 then (if a0 < (a1.length : Int) then ((impl_VerOk.f k ((rd_T75 a1 a0).f1.f0) ((rd_T75 a1 a0).f1.f1) ((rd_T75 a1 a0).f1.f2) ((rd_T75 a1 a0).f1.f3)).bind fun b1 => (if b1 = true then (impl_listOf.l1 k x9 a1 a9 (wrap64 (a0 + 1))) else (some (([] : List (S75)), false)))) else (none)) else (none)) else (some (x9, decide ((x9.length : Int) ≤ 4)))
end
def impl_listOf.f (k : Nat) (a0 : ByteArray) : Option ((List (S75)) × Bool) := (strings_Trim.f a0 (⟨#[32]⟩ : ByteArray)).bind fun a2 => ((strings_Split.f a2 (⟨#[32]⟩ : ByteArray)).bind fun a1 => (if (a1.length : Int) = 3 then (if 1 < (a1.length : Int) then (impl_listOf.j0 k a1 ((rdOf ByteArray.empty a1 1).toList == ([45] : List UInt8))) else (none)) else (impl_listOf.j0 k a1 false)))
theorem impl_listOf.calls (k : Nat) (a0 : ByteArray) (r1 : List (S75)) (r2 : Bool) (w : World) (hG : GW w) (h : impl_listOf.f k a0 = some (r1, r2)) :
  Calls Tryz.prog 82 #[.string a0] w fun e w' => ∃ v5 : Value, e = .returned (.tuple #[v5, .bool r2]) ∧ Kd.N k75 75 w' w.heap.size (fun k_ => (w.heap.size ≤ k_)) v5 r1 ∧ Below w.heap.size w w' := by
 have D3 := Tryz.underlying32
 have D4 := Tryz.underlying75
 have HG := zA hG
 clear hG
 have HB := zA (Below.refl w.heap.size w)
 unfold impl_listOf.f at h
 have H := h
 clear h
 replace H := Option.bind_eq_some_iff.mp H
 obtain ⟨j5, v6, H⟩ := H
 try dsimp only at H
 have A2 := zA v6
 clear v6
 replace H := Option.bind_eq_some_iff.mp H
 obtain ⟨a1, v7, H⟩ := H
 try dsimp only at H
 have A3 := zA v7
 clear v7
 have j6 := zA H
 clear H
 go_enter Tryz.func82, Tryz.ntmps82
 go_upto_region 2 with (first | ((with_reducible refine zq 127 ?_); refine zg (some 17) Tryz.func127 #[.string a0, .string (⟨#[32]⟩ : ByteArray)] ?_; (with_reducible refine (strings_Trim.calls a0 (⟨#[32]⟩ : ByteArray) j5 _ A2.out).mono ?_); rintro e w' ⟨rfl, ⟨nd, rfl⟩⟩; refine ⟨_, rfl, ?_⟩) | ((with_reducible refine zq 81 ?_); refine zg (some 18) Tryz.func81 #[.string j5, .string (⟨#[32]⟩ : ByteArray)] ?_; (with_reducible refine (strings_Split.calls j5 (⟨#[32]⟩ : ByteArray) a1 _ ?s1 A3.out).mono ?_); (case s1 => exact GW.below HG.out (zB)); rintro e w5 ⟨v8, rfl, a7, hb⟩; refine ⟨_, rfl, ?_⟩; have h4 := zA (Kd.R_lower (Kd.R_newM (M := fun k_ => (w.heap.size ≤ k_)) a7 (below_size (zB)) (fun k_ h_ => h_)) (below_size (zB))); replace HB := zA (below_step (zB) hb); (try clear hb a7)))
 (try simp only [Act.put, zT])
 go_cut [27] (fun y7 wc => ∃ (kq : Nat) (j7 : Bool), y7 = .bool j7 ∧ Aside0 (impl_listOf.j0 kq a1 j7 = some (r1, r2)) ∧ Aside0 (kq ≤ k) ∧ Aside0 (Kd.R Kd.string 9 wc w.heap.size (fun k_ => (w.heap.size ≤ k_)) v8 a1) ∧ Aside0 (Below w.heap.size w wc))
 case first =>
  have H := j6.out; clear j6; replace H := zI1 H
  rcases H with ⟨c6, H⟩ | ⟨c6, H⟩
  ·have d9 := beq_iff_eq.mpr c6; have h5 := bne_eq_false_iff_eq.mpr c6; clear c6
   (first | rw [d9] | (simp only [i64_w, i32_w]; rw [d9]) | skip)
   replace H := zC0 H; obtain ⟨c7, H⟩ := H; have i7 := decide_eq_true c7; have i8 : decide (1 < a1.length) = true := decide_eq_true (by omega); clear c7; have H' := zA H; clear H; obtain ⟨D5, D6, y8⟩ := Kd.R_slice h4.out; subst y8; have f8 : 0 ≤ (1 : Int) := (by omega); have f9 : 1 < (a1.length : Int) := zD; obtain ⟨D7, y9, g5⟩ := Kd.at_string (Kd.R_reads' h4.out).2.2 1 f8 f9; cases y9
   (try simp only [show (1 : Int).toNat = 1 from rfl, Nat.reduceMul, Nat.reduceEqDiff, Go.Addr.add, ↓reduceIte] at g5)
   have D8 : (1 < a1.length) = True := eq_true (by omega)
   (try rw [show ((1 : Int)).toNat = 1 from rfl] at g5)
   replace f8 := eq_true f8; replace f9 := eq_true f9
   go_wp2
   go_meet
   case rel => exact ⟨_, (((rdOf ByteArray.empty a1 1).toList == ([45] : List UInt8))), zS, (by first | exact H' | (subst_vars; exact H')), ⟨by first | omega | exact Nat.le_refl _⟩, ⟨zR (Kd.R_mono h4.out (fun _ hk => hk.1))⟩, ⟨zB⟩⟩
  have d9 := beq_eq_false_iff_ne.mpr c6; have h5 := bne_iff_ne.mpr c6
  (first | rw [d9] | (simp only [i64_w, i32_w]; rw [d9]) | skip)
  have H' := zA H; clear H; obtain ⟨D9, E0, z0⟩ := Kd.R_slice h4.out; subst z0
  go_wp2
  go_meet
  case rel => exact ⟨_, (false), zS, (by first | exact H' | (subst_vars; exact H')), ⟨by first | omega | exact Nat.le_refl _⟩, ⟨zR (Kd.R_mono h4.out (fun _ hk => hk.1))⟩, ⟨zB⟩⟩
 case rest =>
  clear j6
  try clear c1
  try clear p2
  try clear c6
  try clear d9
  try clear h5
  try clear p6
  try clear q6
  try clear hx6
  try clear qi6
  try clear c7
  try clear i7
  try clear i8
  try clear c8
  try clear g5
  try clear f8
  try clear f9
  obtain ⟨kq, j7, rfl, HA, h6, a3, HB⟩ := hcut
  cases kq with
  | zero => exact absurd HA.out (by simp [impl_listOf.j0])
  | succ h7 =>
   have H := HA.out; clear HA; simp only [impl_listOf.j0] at H; have j8 := zA H; clear H
   go_upto_if 27 with (fail)
   go_cut [] (fun wc => ∃ (kq : Nat), Aside0 (impl_listOf.j1 kq a1 = some (r1, r2)) ∧ Aside0 (kq ≤ h7) ∧ Aside0 (Kd.R Kd.string 9 wc w.heap.size (fun k_ => (w.heap.size ≤ k_)) v8 a1) ∧ Aside0 (Below w.heap.size w wc))
   case first =>
    have H := j8.out; clear j8; replace H := zB0 H
    rcases H with ⟨rfl, H⟩ | ⟨rfl, H⟩
    ·replace H := zC0 H; obtain ⟨h8, H⟩ := H; have h9 := decide_eq_true h8; have j9 : decide (0 < a1.length) = true := decide_eq_true (by omega); clear h8
     (first | rw [h9] | (simp only [i64_w, i32_w]; rw [h9]) | skip)
     replace H := Option.bind_eq_some_iff.mp H; obtain ⟨⟨b7, b8, b9, b2, z1⟩, x0, H⟩ := H
     try dsimp only at H
     have x1 := zA x0; clear x0; replace H := zC0 H; obtain ⟨i0, H⟩ := H; have k0 := decide_eq_true i0; have k1 : decide (2 < a1.length) = true := decide_eq_true (by omega); clear i0; replace H := Option.bind_eq_some_iff.mp H; obtain ⟨⟨c0, c9, d0, b3, k2⟩, x2, H⟩ := H
     try dsimp only at H
     have x3 := zA x2; clear x2; obtain ⟨x4, k5⟩ : ∃ y_ : List (S75), y_ = (([(⟨4, (⟨b7, b8, b9, b2⟩ : S32)⟩ : S75), (⟨2, (⟨c0, c9, d0, b3⟩ : S32)⟩ : S75)] : List (S75))) := ⟨_, rfl⟩; replace H : (if z1 = true then (some (x4, k2)) else (some (x4, false))) = some (r1, r2) := zY k5 H; have i9 := zA k5; clear k5; replace H := zB0 H
     rcases H with ⟨rfl, H⟩ | ⟨rfl, H⟩
     ·simp only [zU] at H; obtain ⟨rfl, rfl⟩ := H; obtain ⟨E1, e8, z2⟩ := Kd.R_slice a3.out; subst z2; have d5 : 0 ≤ (0 : Int) := (by omega); have d6 : 0 < (a1.length : Int) := zD; obtain ⟨a8, k6, e9⟩ := Kd.at_string (Kd.R_reads' a3.out).2.2 0 d5 d6; cases k6; have z3 : (0 < a1.length) = True := eq_true (by omega)
      (try rw [show ((0 : Int)).toNat = 0 from rfl] at e9)
      (try rw [Addr.add_zero'] at e9)
      replace d5 := eq_true d5; replace d6 := eq_true d6
      go_wp2_with (first | ((with_reducible refine zq 128 ?_); refine zg (some 32) Tryz.func128 #[.string (rdOf ByteArray.empty a1 0)] ?_; (with_reducible refine (impl_ParseVer.calls h7 (rdOf ByteArray.empty a1 0) b7 b8 b9 b2 true _ ?s1 x1.out).mono ?_); (case s1 => exact GW.below HG.out (zB)); rintro e E2 ⟨z4, rfl, a7, hb⟩; refine ⟨_, rfl, ?_⟩; have a9 := zA (Kd.R_lower (Kd.R_new' (Kd.R_newM (M := fun k_ => (w.heap.size ≤ k_)) a7 (below_size (zB)) (fun k_ h_ => h_)) (Kd.R_lt (zR a3.out))) (below_size (zB))); replace a3 := zA (Kd.R_elder' (zR a3.out) (Kd.R_base a7) hb); replace HB := zA (below_step (zB) hb); (try clear hb a7)) | ((with_reducible refine zd 5 ?_); refine ze 5 32 #[.int .i64 0, .int .i64 0, .int .i64 0, .slice none 0 0] ?_; intro b0 hg E3 hbox hb; replace a3 := zr a3 hb; replace a9 := zr a9 hb; have a2 := zA (hbox); have z5 := zi HB hg; have z6 := zi HB hg; replace HB := zA (below_step (zB) hb); clear hb hbox hg; obtain ⟨k7, k8, k9, l2, l3, l4, l5, l6⟩ := ze4 a2.out; obtain ⟨g6, g7, z7⟩ := Kd.R_slice a9.out; subst z7; have d7 : 0 ≤ (2 : Int) := (by omega); have d8 : 2 < (a1.length : Int) := zD; obtain ⟨l7, l8, b1⟩ := Kd.at_string (Kd.R_reads' a3.out).2.2 2 d7 d8; obtain rfl : a8 = l7 := (by injection l8); (try simp only [show (2 : Int).toNat = 2 from rfl, Nat.reduceMul, Nat.reduceEqDiff, Go.Addr.add, ↓reduceIte] at b1); have z8 : (2 < a1.length) = True := eq_true (by omega); (try rw [show ((2 : Int)).toNat = 2 from rfl] at b1); have e0 : a8.block ≠ b0 := Kd.own_blk (Kd.R_ne a3.out a2.out (by decide)); have e1 : a8.block ≠ b0 := Kd.own_blk (Kd.R_ne a3.out a2.out (by decide)); have e2 : a8.block ≠ b0 := Kd.own_blk (Kd.R_ne a3.out a2.out (by decide)); have e3 : a8.block ≠ b0 := Kd.own_blk (Kd.R_ne a3.out a2.out (by decide)); replace b1 := (cell_far (p := ⟨b0, 0, none⟩) (by first | (rw [add_block]; exact e0) | (show (Addr.add _ _).block ≠ _; rw [add_block]; exact e0) | exact e0) (.int .i64 b7)).trans b1; replace b1 := (cell_far (p := ⟨b0, 1, none⟩) (by first | (rw [add_block]; exact e1) | (show (Addr.add _ _).block ≠ _; rw [add_block]; exact e1) | exact e1) (.int .i64 b8)).trans b1; replace b1 := (cell_far (p := ⟨b0, 2, none⟩) (by first | (rw [add_block]; exact e2) | (show (Addr.add _ _).block ≠ _; rw [add_block]; exact e2) | exact e2) (.int .i64 b9)).trans b1; replace b1 := (cell_far (p := ⟨b0, 3, none⟩) (by first | (rw [add_block]; exact e3) | (show (Addr.add _ _).block ≠ _; rw [add_block]; exact e3) | exact e3) (.slice g6 b2.length g7)).trans b1; clear e0; clear e1; clear e2; clear e3; replace d7 := eq_true d7; replace d8 := eq_true d8) | ((with_reducible refine zq 128 ?_); refine zg (some 39) Tryz.func128 #[.string (rdOf ByteArray.empty a1 2)] ?_; (with_reducible refine (impl_ParseVer.calls h7 (rdOf ByteArray.empty a1 2) c0 c9 d0 b3 k2 _ ?s1 x3.out).mono ?_); (case s1 => exact GW.below HG.out (zW HB.out)); rintro e E4 ⟨z9, rfl, a7, hb⟩; refine ⟨_, rfl, ?_⟩; have b6 := zA (Kd.R_lower (Kd.R_new' (Kd.R_new' (Kd.R_newM (M := fun k_ => (w.heap.size ≤ k_)) a7 (below_size (zW HB.out)) (fun k_ h_ => h_)) (Kd.R_lt (zR (zr4 a3.out a2.out)))) (Kd.R_lt (zR (zr4 a9.out a2.out)))) (below_size (zW HB.out))); replace a3 := zA (Kd.R_elder' (zR (zr4 a3.out a2.out)) (Kd.R_base a7) hb); replace a9 := zA (Kd.R_elder' (zR (zr4 a9.out a2.out)) (Kd.R_base a7) hb); replace a2 := zA (blk_below (zk4 a2.out) hb); replace HB := zh HB hb; (try clear hb a7)) | ((with_reducible refine zd 7 ?_); refine ze 7 32 #[.int .i64 0, .int .i64 0, .int .i64 0, .slice none 0 0] ?_; intro b5 hg A0 hbox hb; replace a3 := zr a3 hb; replace a9 := zr a9 hb; replace b6 := zr b6 hb; have a6 := zA (hbox); have A1 := zi HB hg; have A4 := zi HB hg; replace HB := zh HB hb; have l9 := zA (zL hg (zK a2.out)); have m0 := zA (zJ hg (zK a2.out)); replace a2 := zb a2 hb; clear hb hbox hg; have E5 := m0.out; have E6 := l9.out; obtain ⟨m1, m2, m3, m4, m5, m6, m7, m8⟩ := ze4 a6.out; obtain ⟨g8, g9, A5⟩ := Kd.R_slice b6.out; subst A5) | ((with_reducible refine gate_store (t := 32) (p := 7) rfl ?_); refine store_event (t := 32) (p := 7) (v := ?vo_w27) (w1 := ((((A0.setCell ⟨b5, 0, none⟩ (.int .i64 c0)).setCell ⟨b5, 1, none⟩ (.int .i64 c9)).setCell ⟨b5, 2, none⟩ (.int .i64 d0)).setCell ⟨b5, 3, none⟩ (.slice g8 b3.length g9))) ?hg ?ho ?hn ?hr ?_; (case ho => rfl); (case hg => rfl); (case hn => rfl); (case hr => first | (go_simp; done) | (go_simp; rfl)); intro m9 hw; replace a3 : Aside0 (Kd.R Kd.string 9 m9 w.heap.size (fun k_ => (w.heap.size ≤ k_) ∧ some k_ ≠ (.slice g6 b2.length g7 : Value).ownBlock ∧ some k_ ≠ (.slice g8 b3.length g9 : Value).ownBlock) (.slice (some a8) a1.length e8) a1) := ⟨(by rw [hw]; exact (zR (Kd.R_mono (zr4 a3.out a6.out) (fun _ hk => ⟨hk.1.1, ⟨hk.1.2, hk.2⟩⟩))))⟩; replace a9 : Aside0 (Kd.R Kd.string 9 m9 w.heap.size (fun k_ => (w.heap.size ≤ k_) ∧ some k_ ≠ (.slice (some a8) a1.length e8 : Value).ownBlock ∧ some k_ ≠ (.slice g8 b3.length g9 : Value).ownBlock) (.slice g6 b2.length g7) b2) := ⟨(by rw [hw]; exact (zR (Kd.R_mono (zr4 a9.out a6.out) (fun _ hk => ⟨hk.1.1.1, ⟨hk.1.2, hk.2⟩⟩))))⟩; replace b6 : Aside0 (Kd.R Kd.string 9 m9 w.heap.size (fun k_ => (w.heap.size ≤ k_) ∧ some k_ ≠ (.slice (some a8) a1.length e8 : Value).ownBlock ∧ some k_ ≠ (.slice g6 b2.length g7 : Value).ownBlock) (.slice g8 b3.length g9) b3) := ⟨(by rw [hw]; exact (zR (Kd.R_mono (zr4 b6.out a6.out) (fun _ hk => ⟨hk.1.1.1, ⟨hk.1.2, hk.2⟩⟩))))⟩; replace a2 := zA (zh1 hw (zK a2.out)); replace a6 := zA (zh1 hw (zk4 a6.out)); replace HB := zA (zh2 hw (zW HB.out)); clear hw; obtain ⟨n0, n1, n2, n3, n4, n5, n6, n7⟩ := ze4 a2.out; obtain ⟨n8, n9, o0, o1, o2, o3, o4, o5⟩ := ze4 a6.out) | ((with_reducible refine gate_dst (N := 46) rfl ?_); refine zNl k75 75 46 (xs := ([(⟨4, (⟨b7, b8, b9, b2⟩ : S32)⟩ : S75), (⟨2, (⟨c0, c9, d0, b3⟩ : S32)⟩ : S75)] : List (S75))) (inner := [.int .i64 4, .int .i64 b7, .int .i64 b8, .int .i64 b9, .slice g6 b2.length g7, .int .i64 2, .int .i64 c0, .int .i64 c9, .int .i64 d0, .slice g8 b3.length g9]) (ok := (fun k_ => (w.heap.size ≤ k_) ∧ some k_ ≠ (.slice (some a8) a1.length e8 : Value).ownBlock ∧ k_ ≠ b0 ∧ k_ ≠ b5)) ((Reps.c5 (show Kd.FK k75 _ _ (⟨4, (⟨b7, b8, b9, b2⟩ : S32)⟩ : S75) [.int .i64 4, .int .i64 b7, .int .i64 b8, .int .i64 b9, .slice g6 b2.length g7] from (k75_mkF _ _ (⟨4, (⟨b7, b8, b9, b2⟩ : S32)⟩ : S75) (Kd.R_reads' (Kd.R_mono (ok' := (fun k_ => (w.heap.size ≤ k_) ∧ some k_ ≠ (.slice (some a8) a1.length e8 : Value).ownBlock ∧ k_ ≠ b0 ∧ k_ ≠ b5)) (Kd.R_types (Kd.R_types (a9.out) a2.out (by decide)) a6.out (by decide)) (fun k_ hk => ⟨hk.1.1.1, ⟨hk.1.1.2.1, ⟨hk.1.2, hk.2⟩⟩⟩))).2.1 (Kd.R_F (Kd.R_mono (ok' := (fun k_ => (w.heap.size ≤ k_) ∧ some k_ ≠ (.slice (some a8) a1.length e8 : Value).ownBlock ∧ k_ ≠ b0 ∧ k_ ≠ b5)) (Kd.R_types (Kd.R_types (a9.out) a2.out (by decide)) a6.out (by decide)) (fun k_ hk => ⟨hk.1.1.1, ⟨hk.1.1.2.1, ⟨hk.1.2, hk.2⟩⟩⟩))))) (Reps.c5 (show Kd.FK k75 _ _ (⟨2, (⟨c0, c9, d0, b3⟩ : S32)⟩ : S75) [.int .i64 2, .int .i64 c0, .int .i64 c9, .int .i64 d0, .slice g8 b3.length g9] from (k75_mkF _ _ (⟨2, (⟨c0, c9, d0, b3⟩ : S32)⟩ : S75) (Kd.R_reads' (Kd.R_mono (ok' := (fun k_ => (w.heap.size ≤ k_) ∧ some k_ ≠ (.slice (some a8) a1.length e8 : Value).ownBlock ∧ k_ ≠ b0 ∧ k_ ≠ b5)) (Kd.R_types (Kd.R_types (b6.out) a2.out (by decide)) a6.out (by decide)) (fun k_ hk => ⟨hk.1.1.1, ⟨hk.1.1.2.1, ⟨hk.1.2, hk.2⟩⟩⟩))).2.1 (Kd.R_F (Kd.R_mono (ok' := (fun k_ => (w.heap.size ≤ k_) ∧ some k_ ≠ (.slice (some a8) a1.length e8 : Value).ownBlock ∧ k_ ≠ b0 ∧ k_ ≠ b5)) (Kd.R_types (Kd.R_types (b6.out) a2.out (by decide)) a6.out (by decide)) (fun k_ hk => ⟨hk.1.1.1, ⟨hk.1.1.2.1, ⟨hk.1.2, hk.2⟩⟩⟩))))) (Reps.none _ _)))) (fun k_ hk => ⟨(Nat.le_trans (below_size (zW HB.out)) hk), Kd.fresh' (Kd.R_lt (zR a3.out)) k_ hk, Kd.freshB (zK a2.out) k_ hk, Kd.freshB (zK a6.out) k_ hk⟩) ?_; intro A6 E7 i1 hb hg_ hnew_; clear hg_ hnew_; (first | rw [← i9.out] at i1 | (simp only [Int.reduceToNat] at i1; rw [← i9.out] at i1)); replace a3 := zr a3 hb; have o6 := zA (Kd.N_lower i1 (below_size (zW HB.out))); replace a2 := zb a2 hb; replace a6 := zb a6 hb; replace HB := zh HB hb; clear a9 b6; clear hb i1))
      go_ret2
      exact ⟨_, zE, zNt (Kd.N_mono o6.out (fun _ hk => hk.1)), zW HB.out⟩
     simp only [zU] at H; obtain ⟨rfl, rfl⟩ := H; obtain ⟨E8, f4, A7⟩ := Kd.R_slice a3.out; subst A7; have d5 : 0 ≤ (0 : Int) := (by omega); have d6 : 0 < (a1.length : Int) := zD; obtain ⟨a8, k6, e9⟩ := Kd.at_string (Kd.R_reads' a3.out).2.2 0 d5 d6; cases k6; have z3 : (0 < a1.length) = True := eq_true (by omega)
     (try rw [show ((0 : Int)).toNat = 0 from rfl] at e9)
     (try rw [Addr.add_zero'] at e9)
     replace d5 := eq_true d5; replace d6 := eq_true d6
     go_wp2_with (first | ((with_reducible refine zq 128 ?_); refine zg (some 32) Tryz.func128 #[.string (rdOf ByteArray.empty a1 0)] ?_; (with_reducible refine (impl_ParseVer.calls h7 (rdOf ByteArray.empty a1 0) b7 b8 b9 b2 false _ ?s1 x1.out).mono ?_); (case s1 => exact GW.below HG.out (zB)); rintro e E9 ⟨z4, rfl, a7, hb⟩; refine ⟨_, rfl, ?_⟩; have a9 := zA (Kd.R_lower (Kd.R_new' (Kd.R_newM (M := fun k_ => (w.heap.size ≤ k_)) a7 (below_size (zB)) (fun k_ h_ => h_)) (Kd.R_lt (zR a3.out))) (below_size (zB))); replace a3 := zA (Kd.R_elder' (zR a3.out) (Kd.R_base a7) hb); replace HB := zA (below_step (zB) hb); (try clear hb a7)) | ((with_reducible refine zd 5 ?_); refine ze 5 32 #[.int .i64 0, .int .i64 0, .int .i64 0, .slice none 0 0] ?_; intro b0 hg F0 hbox hb; replace a3 := zr a3 hb; replace a9 := zr a9 hb; have a2 := zA (hbox); have z5 := zi HB hg; have z6 := zi HB hg; replace HB := zA (below_step (zB) hb); clear hb hbox hg; obtain ⟨o7, o8, o9, p0, p1, p3, p4, p5⟩ := ze4 a2.out; obtain ⟨h0, h1, A8⟩ := Kd.R_slice a9.out; subst A8; have d7 : 0 ≤ (2 : Int) := (by omega); have d8 : 2 < (a1.length : Int) := zD; obtain ⟨l7, l8, b1⟩ := Kd.at_string (Kd.R_reads' a3.out).2.2 2 d7 d8; obtain rfl : a8 = l7 := (by injection l8); (try simp only [show (2 : Int).toNat = 2 from rfl, Nat.reduceMul, Nat.reduceEqDiff, Go.Addr.add, ↓reduceIte] at b1); have z8 : (2 < a1.length) = True := eq_true (by omega); (try rw [show ((2 : Int)).toNat = 2 from rfl] at b1); have e0 : a8.block ≠ b0 := Kd.own_blk (Kd.R_ne a3.out a2.out (by decide)); have e1 : a8.block ≠ b0 := Kd.own_blk (Kd.R_ne a3.out a2.out (by decide)); have e2 : a8.block ≠ b0 := Kd.own_blk (Kd.R_ne a3.out a2.out (by decide)); have e3 : a8.block ≠ b0 := Kd.own_blk (Kd.R_ne a3.out a2.out (by decide)); replace b1 := (cell_far (p := ⟨b0, 0, none⟩) (by first | (rw [add_block]; exact e0) | (show (Addr.add _ _).block ≠ _; rw [add_block]; exact e0) | exact e0) (.int .i64 b7)).trans b1; replace b1 := (cell_far (p := ⟨b0, 1, none⟩) (by first | (rw [add_block]; exact e1) | (show (Addr.add _ _).block ≠ _; rw [add_block]; exact e1) | exact e1) (.int .i64 b8)).trans b1; replace b1 := (cell_far (p := ⟨b0, 2, none⟩) (by first | (rw [add_block]; exact e2) | (show (Addr.add _ _).block ≠ _; rw [add_block]; exact e2) | exact e2) (.int .i64 b9)).trans b1; replace b1 := (cell_far (p := ⟨b0, 3, none⟩) (by first | (rw [add_block]; exact e3) | (show (Addr.add _ _).block ≠ _; rw [add_block]; exact e3) | exact e3) (.slice h0 b2.length h1)).trans b1; clear e0; clear e1; clear e2; clear e3; replace d7 := eq_true d7; replace d8 := eq_true d8) | ((with_reducible refine zq 128 ?_); refine zg (some 39) Tryz.func128 #[.string (rdOf ByteArray.empty a1 2)] ?_; (with_reducible refine (impl_ParseVer.calls h7 (rdOf ByteArray.empty a1 2) c0 c9 d0 b3 k2 _ ?s1 x3.out).mono ?_); (case s1 => exact GW.below HG.out (zW HB.out)); rintro e F1 ⟨z9, rfl, a7, hb⟩; refine ⟨_, rfl, ?_⟩; have b6 := zA (Kd.R_lower (Kd.R_new' (Kd.R_new' (Kd.R_newM (M := fun k_ => (w.heap.size ≤ k_)) a7 (below_size (zW HB.out)) (fun k_ h_ => h_)) (Kd.R_lt (zR (zr4 a3.out a2.out)))) (Kd.R_lt (zR (zr4 a9.out a2.out)))) (below_size (zW HB.out))); replace a3 := zA (Kd.R_elder' (zR (zr4 a3.out a2.out)) (Kd.R_base a7) hb); replace a9 := zA (Kd.R_elder' (zR (zr4 a9.out a2.out)) (Kd.R_base a7) hb); replace a2 := zA (blk_below (zk4 a2.out) hb); replace HB := zh HB hb; (try clear hb a7)) | ((with_reducible refine zd 7 ?_); refine ze 7 32 #[.int .i64 0, .int .i64 0, .int .i64 0, .slice none 0 0] ?_; intro b5 hg A9 hbox hb; replace a3 := zr a3 hb; replace a9 := zr a9 hb; replace b6 := zr b6 hb; have a6 := zA (hbox); have A1 := zi HB hg; have A4 := zi HB hg; replace HB := zh HB hb; have l9 := zA (zL hg (zK a2.out)); have m0 := zA (zJ hg (zK a2.out)); replace a2 := zb a2 hb; clear hb hbox hg; have F2 := m0.out; have F3 := l9.out; obtain ⟨p7, p8, p9, q0, q1, q2, q3, q4⟩ := ze4 a6.out; obtain ⟨h2, h3, B0⟩ := Kd.R_slice b6.out; subst B0) | ((with_reducible refine gate_store (t := 32) (p := 7) rfl ?_); refine store_event (t := 32) (p := 7) (v := ?vo_w42) (w1 := ((((A9.setCell ⟨b5, 0, none⟩ (.int .i64 c0)).setCell ⟨b5, 1, none⟩ (.int .i64 c9)).setCell ⟨b5, 2, none⟩ (.int .i64 d0)).setCell ⟨b5, 3, none⟩ (.slice h2 b3.length h3))) ?hg ?ho ?hn ?hr ?_; (case ho => rfl); (case hg => rfl); (case hn => rfl); (case hr => first | (go_simp; done) | (go_simp; rfl)); intro q5 hw; replace a3 : Aside0 (Kd.R Kd.string 9 q5 w.heap.size (fun k_ => (w.heap.size ≤ k_) ∧ some k_ ≠ (.slice h0 b2.length h1 : Value).ownBlock ∧ some k_ ≠ (.slice h2 b3.length h3 : Value).ownBlock) (.slice (some a8) a1.length f4) a1) := ⟨(by rw [hw]; exact (zR (Kd.R_mono (zr4 a3.out a6.out) (fun _ hk => ⟨hk.1.1, ⟨hk.1.2, hk.2⟩⟩))))⟩; replace a9 : Aside0 (Kd.R Kd.string 9 q5 w.heap.size (fun k_ => (w.heap.size ≤ k_) ∧ some k_ ≠ (.slice (some a8) a1.length f4 : Value).ownBlock ∧ some k_ ≠ (.slice h2 b3.length h3 : Value).ownBlock) (.slice h0 b2.length h1) b2) := ⟨(by rw [hw]; exact (zR (Kd.R_mono (zr4 a9.out a6.out) (fun _ hk => ⟨hk.1.1.1, ⟨hk.1.2, hk.2⟩⟩))))⟩; replace b6 : Aside0 (Kd.R Kd.string 9 q5 w.heap.size (fun k_ => (w.heap.size ≤ k_) ∧ some k_ ≠ (.slice (some a8) a1.length f4 : Value).ownBlock ∧ some k_ ≠ (.slice h0 b2.length h1 : Value).ownBlock) (.slice h2 b3.length h3) b3) := ⟨(by rw [hw]; exact (zR (Kd.R_mono (zr4 b6.out a6.out) (fun _ hk => ⟨hk.1.1.1, ⟨hk.1.2, hk.2⟩⟩))))⟩; replace a2 := zA (zh1 hw (zK a2.out)); replace a6 := zA (zh1 hw (zk4 a6.out)); replace HB := zA (zh2 hw (zW HB.out)); clear hw; obtain ⟨q7, q8, q9, r0, r3, r4, r5, r6⟩ := ze4 a2.out; obtain ⟨r7, r8, r9, t0, t1, t2, t3, t4⟩ := ze4 a6.out) | ((with_reducible refine gate_dst (N := 46) rfl ?_); refine zNl k75 75 46 (xs := ([(⟨4, (⟨b7, b8, b9, b2⟩ : S32)⟩ : S75), (⟨2, (⟨c0, c9, d0, b3⟩ : S32)⟩ : S75)] : List (S75))) (inner := [.int .i64 4, .int .i64 b7, .int .i64 b8, .int .i64 b9, .slice h0 b2.length h1, .int .i64 2, .int .i64 c0, .int .i64 c9, .int .i64 d0, .slice h2 b3.length h3]) (ok := (fun k_ => (w.heap.size ≤ k_) ∧ some k_ ≠ (.slice (some a8) a1.length f4 : Value).ownBlock ∧ k_ ≠ b0 ∧ k_ ≠ b5)) ((Reps.c5 (show Kd.FK k75 _ _ (⟨4, (⟨b7, b8, b9, b2⟩ : S32)⟩ : S75) [.int .i64 4, .int .i64 b7, .int .i64 b8, .int .i64 b9, .slice h0 b2.length h1] from (k75_mkF _ _ (⟨4, (⟨b7, b8, b9, b2⟩ : S32)⟩ : S75) (Kd.R_reads' (Kd.R_mono (ok' := (fun k_ => (w.heap.size ≤ k_) ∧ some k_ ≠ (.slice (some a8) a1.length f4 : Value).ownBlock ∧ k_ ≠ b0 ∧ k_ ≠ b5)) (Kd.R_types (Kd.R_types (a9.out) a2.out (by decide)) a6.out (by decide)) (fun k_ hk => ⟨hk.1.1.1, ⟨hk.1.1.2.1, ⟨hk.1.2, hk.2⟩⟩⟩))).2.1 (Kd.R_F (Kd.R_mono (ok' := (fun k_ => (w.heap.size ≤ k_) ∧ some k_ ≠ (.slice (some a8) a1.length f4 : Value).ownBlock ∧ k_ ≠ b0 ∧ k_ ≠ b5)) (Kd.R_types (Kd.R_types (a9.out) a2.out (by decide)) a6.out (by decide)) (fun k_ hk => ⟨hk.1.1.1, ⟨hk.1.1.2.1, ⟨hk.1.2, hk.2⟩⟩⟩))))) (Reps.c5 (show Kd.FK k75 _ _ (⟨2, (⟨c0, c9, d0, b3⟩ : S32)⟩ : S75) [.int .i64 2, .int .i64 c0, .int .i64 c9, .int .i64 d0, .slice h2 b3.length h3] from (k75_mkF _ _ (⟨2, (⟨c0, c9, d0, b3⟩ : S32)⟩ : S75) (Kd.R_reads' (Kd.R_mono (ok' := (fun k_ => (w.heap.size ≤ k_) ∧ some k_ ≠ (.slice (some a8) a1.length f4 : Value).ownBlock ∧ k_ ≠ b0 ∧ k_ ≠ b5)) (Kd.R_types (Kd.R_types (b6.out) a2.out (by decide)) a6.out (by decide)) (fun k_ hk => ⟨hk.1.1.1, ⟨hk.1.1.2.1, ⟨hk.1.2, hk.2⟩⟩⟩))).2.1 (Kd.R_F (Kd.R_mono (ok' := (fun k_ => (w.heap.size ≤ k_) ∧ some k_ ≠ (.slice (some a8) a1.length f4 : Value).ownBlock ∧ k_ ≠ b0 ∧ k_ ≠ b5)) (Kd.R_types (Kd.R_types (b6.out) a2.out (by decide)) a6.out (by decide)) (fun k_ hk => ⟨hk.1.1.1, ⟨hk.1.1.2.1, ⟨hk.1.2, hk.2⟩⟩⟩))))) (Reps.none _ _)))) (fun k_ hk => ⟨(Nat.le_trans (below_size (zW HB.out)) hk), Kd.fresh' (Kd.R_lt (zR a3.out)) k_ hk, Kd.freshB (zK a2.out) k_ hk, Kd.freshB (zK a6.out) k_ hk⟩) ?_; intro A6 F4 i2 hb hg_ hnew_; clear hg_ hnew_; (first | rw [← i9.out] at i2 | (simp only [Int.reduceToNat] at i2; rw [← i9.out] at i2)); replace a3 := zr a3 hb; have o6 := zA (Kd.N_lower i2 (below_size (zW HB.out))); replace a2 := zb a2 hb; replace a6 := zb a6 hb; replace HB := zh HB hb; clear a9 b6; clear hb i2))
     go_ret2
     exact ⟨_, zE, zNt (Kd.N_mono o6.out (fun _ hk => hk.1)), zW HB.out⟩
    have H' := zA H; clear H
    go_wp2
    go_meet
    case rel => exact ⟨_, (by first | exact H' | (subst_vars; exact H')), ⟨by have := h6.out; first | omega | exact Nat.le_refl _⟩, ⟨zR a3.out⟩, ⟨zB⟩⟩
   case rest =>
    clear j8
    try clear c1
    try clear c2
    try clear p2
    try clear c3
    try clear c5
    try clear c6
    try clear d9
    try clear h5
    try clear p6
    try clear q6
    try clear hx6
    try clear qi6
    try clear c7
    try clear i7
    try clear i8
    try clear c8
    try clear c11
    try clear h8
    try clear h9
    try clear j9
    try clear i0
    try clear k0
    try clear k1
    try clear c16
    try clear c24
    try clear c39
    try clear k7 k8 k9 l2 l3 l4 l5 l6
    try clear m1 m2 m3 m4 m5 m6 m7 m8
    try clear n0 n1 n2 n3 n4 n5 n6 n7
    try clear n8 n9 o0 o1 o2 o3 o4 o5
    try clear o7 o8 o9 p0 p1 p3 p4 p5
    try clear p7 p8 p9 q0 q1 q2 q3 q4
    try clear q7 q8 q9 r0 r3 r4 r5 r6
    try clear r7 r8 r9 t0 t1 t2 t3 t4
    try clear g5
    try clear e9
    try clear b1
    try clear p2
    try clear p6
    try clear f8
    try clear d5
    try clear d7
    try clear q6
    try clear f9
    try clear d6
    try clear d8
    obtain ⟨kq, HA, j2, a3, HB⟩ := hcut
    cases kq with
    | zero => exact absurd HA.out (by simp [impl_listOf.j1])
    | succ x5 =>
     have H := HA.out; clear HA; simp only [impl_listOf.j1] at H; have H' := zA H; clear H; obtain ⟨x6, f5, B1⟩ := Kd.R_slice a3.out; subst B1
     go_wp2
     go_loopg [9, 53] x5 (fun kq v9 B2 w' => ∃ (a4 : List (S75)) (d1 : Int), B2 = .int .i64 d1 ∧ Aside0 (impl_listOf.l0 kq a4 a1 (a1.length : Int) d1 = some (r1, r2)) ∧ Aside0 (kq ≤ x5) ∧ Aside0 (Kd.N k75 75 w' w.heap.size (fun k_ => (w.heap.size ≤ k_) ∧ some k_ ≠ ((.slice x6 a1.length f5) : Value).ownBlock) v9 a4) ∧ Aside0 (Kd.R Kd.string 9 w' w.heap.size (fun k_ => (w.heap.size ≤ k_)) (.slice x6 a1.length f5) a1) ∧ Aside0 (Below w.heap.size w w'))
     case atStart => exact ⟨(([] : List (S75))), (0), zS, H', ⟨Nat.le_refl _⟩, ⟨by first | exact Kd.S_nil _ _ _ _ _ | exact Kd.N_nil _ _ _ _ _ | exact Kd.V_nil _ _ _ _ _ | exact Kd.Q_nil _ _ _ _ _ | exact Kd.R_nil _ _ _ _ _⟩, ⟨zR a3.out⟩, ⟨zB⟩⟩
     case round =>
      clear H'
      try clear c1
      try clear c2
      try clear p2
      try clear c3
      try clear c5
      try clear c6
      try clear d9
      try clear h5
      try clear p6
      try clear q6
      try clear hx6
      try clear qi6
      try clear c7
      try clear i7
      try clear i8
      try clear c8
      try clear c11
      try clear h8
      try clear h9
      try clear j9
      try clear i0
      try clear k0
      try clear k1
      try clear c16
      try clear c24
      try clear c39
      try clear k7 k8 k9 l2 l3 l4 l5 l6
      try clear m1 m2 m3 m4 m5 m6 m7 m8
      try clear n0 n1 n2 n3 n4 n5 n6 n7
      try clear n8 n9 o0 o1 o2 o3 o4 o5
      try clear o7 o8 o9 p0 p1 p3 p4 p5
      try clear p7 p8 p9 q0 q1 q2 q3 q4
      try clear q7 q8 q9 r0 r3 r4 r5 r6
      try clear r7 r8 r9 t0 t1 t2 t3 t4
      try clear g5
      try clear e9
      try clear b1
      try clear p2
      try clear p6
      try clear f8
      try clear d5
      try clear d7
      try clear q6
      try clear f9
      try clear d6
      try clear d8
      obtain ⟨a4, d1, rfl, HA, j3, b4, d4, HB⟩ := hrel
      cases gk with
      | zero => exact absurd HA.out (by simp [impl_listOf.l0])
      | succ k3 =>
       have H := HA.out; clear HA; simp only [impl_listOf.l0] at H; replace H := zI0 H
       rcases H with ⟨x7, H⟩ | ⟨x7, H⟩
       ·replace H := zD0 H; obtain ⟨B3, H⟩ := H; replace H := zD0 H; obtain ⟨B4, H⟩ := H; replace H := Option.bind_eq_some_iff.mp H; obtain ⟨⟨j4, F5⟩, x8, H⟩ := H
        try dsimp only at H
        have x9 := zA x8; clear x8; replace H := zB0 H
        rcases H with ⟨rfl, H⟩ | ⟨rfl, H⟩
        ·replace H := zC0 H; obtain ⟨t5, H⟩ := H; have B5 := zA t5; clear t5; obtain ⟨y0, t6⟩ : ∃ y_ : List (S75), y_ = (a4 ++ j4) := ⟨_, rfl⟩; replace H : (impl_listOf.l0 k3 y0 a1 (a1.length : Int) (wrap64 (d1 + 1))) = some (r1, r2) := zY t6 H; have B6 := zA t6; clear t6; have H' := zA H; clear H; have f6 : 0 ≤ (d1 : Int) := zD; have f7 : d1 < (a1.length : Int) := zD; obtain ⟨g0, t7, y1⟩ := Kd.at_string (Kd.R_reads' d4.out).2.2 d1 f6 f7; cases t7; replace f6 := eq_true f6; replace f7 := eq_true f7
         go_wp2_with (first | ((with_reducible refine zq 129 ?_); refine zg (some 59) Tryz.func129 #[.string (rdOf ByteArray.empty a1 d1)] ?_; (with_reducible refine (impl_cmpsOf.calls k3 (rdOf ByteArray.empty a1 d1) j4 true _ ?s1 x9.out).mono ?_); (case s1 => exact GW.below HG.out (zB)); rintro e F6 ⟨B7, rfl, a7, hb⟩; refine ⟨_, rfl, ?_⟩; have i3 := zA (Kd.N_lower (Kd.N_mono (ok' := fun k_ => (w.heap.size ≤ k_) ∧ some k_ ≠ (u9 : Value).ownBlock ∧ some k_ ≠ (.slice (some g0) a1.length f5 : Value).ownBlock) a7 (fun k_ hk_ => ⟨(Nat.le_trans (below_size (zB)) hk_), (Kd.fresh' (Kd.N_lt (zN b4.out)) k_ hk_), (Kd.fresh' (Kd.R_lt (zR d4.out)) k_ hk_)⟩)) (below_size (zB))); replace b4 := zA (Kd.N_elder' (zN b4.out) (Kd.N_base a7) hb); replace d4 := zr d4 hb; replace HB := zA (below_step (zB) hb); (try clear hb a7); obtain ⟨F7, F8, B8⟩ := Kd.N_slice i3.out; subst B8) | ((with_reducible refine gate_builtin (b := .append) (xs := #[.tmp 64, .tmp 65]) rfl ?_); at_builtin; refine Kd.N_append_rows k75 (w0 := w) w.heap.size rfl (.tmp 64) (.tmp 65) 108 75 (.agg #[(.int .i64 0), (.int .i64 0), (.int .i64 0), (.int .i64 0), (.slice none 0 0)]) 56 rfl Tryz.underlying108 info75 rfl (by decide) (by omega) u9 a4 j4 _ _ _ (fun k_ => (w.heap.size ≤ k_) ∧ some k_ ≠ (.slice (some g0) a1.length f5 : Value).ownBlock) (fun k_ => ((fun k_ => (w.heap.size ≤ k_) ∧ some k_ ≠ (.slice (some g0) a1.length f5 : Value).ownBlock)) k_ ∧ some k_ ≠ (u9 : Value).ownBlock) rfl rfl ?aO ?aR (fun _ hk => hk) ?aF ?aB ?aS ?aL ?_; (case aR => exact (by skip; exact Kd.N_F (Kd.N_mono (ok' := (fun k_ => ((fun k_ => (w.heap.size ≤ k_) ∧ some k_ ≠ (.slice (some g0) a1.length f5 : Value).ownBlock)) k_ ∧ some k_ ≠ (u9 : Value).ownBlock)) (i3.out) (fun k_ hk => ⟨⟨hk.1, hk.2.2⟩, hk.2.1⟩)))); (case aB => exact (zB)); (case aF => exact (fun k_ hk => ⟨(Nat.le_trans (below_size (zB)) hk), Kd.fresh' (Kd.R_lt (zR d4.out)) k_ hk⟩)); (case aO => exact (zNt (Kd.N_mono b4.out (fun _ hk => ⟨hk.1.1, hk.1.2⟩)))); (case aS => exact (below_size (zB))); (case aL => have := B5.out; omega); intro F9 G0 ho hb hg hat; rw [← B6.out] at ho; replace d4 := zA (Kd.R_over' (zR d4.out) (Kd.N_typed (zN b4.out)) (by decide) hg); replace i3 := zA (Kd.N_afterv (ok := (fun k_ => (w.heap.size ≤ k_) ∧ some k_ ≠ (.slice (some g0) a1.length f5 : Value).ownBlock)) (zNt (Kd.N_mono i3.out (fun _ hk => ⟨⟨hk.1, hk.2.2⟩, hk.2.1⟩))) hg hat); replace HB := zA (hb); have B9 := zA (ho); clear b4; clear ho hb hg hat))
         go_roundg k3
         case measure => have := h6.out; have := j2.out; have := j3.out; omega
         case rel => exact ⟨(y0), (wrap64 (d1 + 1)), zS, H', ⟨by have := h6.out; have := j2.out; have := j3.out; omega⟩, ⟨zN B9.out⟩, ⟨zR d4.out⟩, ⟨zB⟩⟩
        simp only [zU] at H; obtain ⟨rfl, rfl⟩ := H; have f6 : 0 ≤ (d1 : Int) := zD; have f7 : d1 < (a1.length : Int) := zD; obtain ⟨g0, t7, y1⟩ := Kd.at_string (Kd.R_reads' d4.out).2.2 d1 f6 f7; cases t7; replace f6 := eq_true f6; replace f7 := eq_true f7
        go_wp2_with (first | ((with_reducible refine zq 129 ?_); refine zg (some 59) Tryz.func129 #[.string (rdOf ByteArray.empty a1 d1)] ?_; (with_reducible refine (impl_cmpsOf.calls k3 (rdOf ByteArray.empty a1 d1) j4 false _ ?s1 x9.out).mono ?_); (case s1 => exact GW.below HG.out (zB)); rintro e G1 ⟨B7, rfl, a7, hb⟩; refine ⟨_, rfl, ?_⟩; have i3 := zA (Kd.N_lower (Kd.N_mono (ok' := fun k_ => (w.heap.size ≤ k_) ∧ some k_ ≠ (u9 : Value).ownBlock ∧ some k_ ≠ (.slice (some g0) a1.length f5 : Value).ownBlock) a7 (fun k_ hk_ => ⟨(Nat.le_trans (below_size (zB)) hk_), (Kd.fresh' (Kd.N_lt (zN b4.out)) k_ hk_), (Kd.fresh' (Kd.R_lt (zR d4.out)) k_ hk_)⟩)) (below_size (zB))); replace b4 := zA (Kd.N_elder' (zN b4.out) (Kd.N_base a7) hb); replace d4 := zr d4 hb; replace HB := zA (below_step (zB) hb); (try clear hb a7)))
        go_ret2
        exact ⟨_, zE, by first | exact Kd.S_nil _ _ _ _ _ | exact Kd.N_nil _ _ _ _ _ | exact Kd.V_nil _ _ _ _ _ | exact Kd.Q_nil _ _ _ _ _ | exact Kd.R_nil _ _ _ _ _, zB⟩
       have H' := zA H; clear H; obtain ⟨y2, y3, C0⟩ := Kd.N_slice b4.out; subst C0
       go_wp2
       go_loopg [70] k3 (fun kq C1 w' => ∃ (a5 : Int), C1 = .int .i64 a5 ∧ Aside0 (impl_listOf.l1 kq a4 a4 (a4.length : Int) a5 = some (r1, r2)) ∧ Aside0 (kq ≤ k3) ∧ Aside0 (Kd.N k75 75 w' w.heap.size (fun k_ => (w.heap.size ≤ k_)) (.slice y2 a4.length y3) a4) ∧ Aside0 (Kd.N k75 75 w' w.heap.size (fun k_ => (w.heap.size ≤ k_)) (.slice y2 a4.length y3) a4) ∧ Aside0 (Below w.heap.size w w'))
       case atStart => exact ⟨(0), zS, H', ⟨Nat.le_refl _⟩, ⟨zNt (Kd.N_mono b4.out (fun _ hk => hk.1))⟩, ⟨zNt (Kd.N_mono b4.out (fun _ hk => hk.1))⟩, ⟨zB⟩⟩
       case round =>
        clear H'
        try clear c1
        try clear c2
        try clear p2
        try clear c3
        try clear c4
        try clear c5
        try clear c6
        try clear d9
        try clear h5
        try clear p6
        try clear q6
        try clear hx6
        try clear qi6
        try clear c7
        try clear i7
        try clear i8
        try clear c8
        try clear c11
        try clear h8
        try clear h9
        try clear j9
        try clear i0
        try clear k0
        try clear k1
        try clear c16
        try clear c24
        try clear c39
        try clear c48
        try clear x7
        try clear c49
        try clear B3
        try clear c50
        try clear B4
        try clear c52
        try clear t5
        try clear k7 k8 k9 l2 l3 l4 l5 l6
        try clear m1 m2 m3 m4 m5 m6 m7 m8
        try clear n0 n1 n2 n3 n4 n5 n6 n7
        try clear n8 n9 o0 o1 o2 o3 o4 o5
        try clear o7 o8 o9 p0 p1 p3 p4 p5
        try clear p7 p8 p9 q0 q1 q2 q3 q4
        try clear q7 q8 q9 r0 r3 r4 r5 r6
        try clear r7 r8 r9 t0 t1 t2 t3 t4
        try clear g5
        try clear e9
        try clear b1
        try clear y1
        try clear p2
        try clear p6
        try clear f8
        try clear d5
        try clear d7
        try clear f6
        try clear q6
        try clear f9
        try clear d6
        try clear d8
        try clear f7
        obtain ⟨a5, rfl, HA, y4, b4, d2, HB⟩ := hrel
        cases gk with
        | zero => exact absurd HA.out (by simp [impl_listOf.l1])
        | succ k4 =>
         have H := HA.out; clear HA; simp only [impl_listOf.l1] at H; replace H := zI0 H
         rcases H with ⟨C2, H⟩ | ⟨C2, H⟩
         ·replace H := zD0 H; obtain ⟨G2, H⟩ := H; replace H := zD0 H; obtain ⟨G3, H⟩ := H; replace H := Option.bind_eq_some_iff.mp H; obtain ⟨G4, y5, H⟩ := H
          try dsimp only at H
          have y6 := zA y5; clear y5; replace H := zB0 H
          rcases H with ⟨rfl, H⟩ | ⟨rfl, H⟩
          ·have H' := zA H; clear H; have e4 : 0 ≤ (a5 : Int) := zD; have e5 : a5 < (a4.length : Int) := zD; obtain ⟨C3, t8, t9, v0, C4, C5, C6, C7, v1, i4, i5⟩ := at_T75 (Kd.N_reads' d2.out).2.2 a5 e4 e5; cases v0; obtain ⟨C8, v2, v3, i6⟩ := Kd.N_get d2.out z75 a5 e4 (by first | exact e5 | exact zD | (have e_ := (Kd.N_reads' d2.out).1; omega)); obtain ⟨C9, D0, rfl, g1, g2⟩ := k75_openF v3; have e6 := i6 4 _ rfl; rw [add_field _ _ 4 (by omega)] at e6; replace e6 := Option.some.inj (e6.symm.trans v1); injection e6 with hva_ hvn_ hvc_; rw [hva_] at g2; rw [hvc_] at g1; have d3 := zA (show Kd.V Kd.string 9 _ w.heap.size _ _ ((rd_T75 a4 a5).f1.f3) from Kd.V_mk g1 g2); clear hva_ hvn_ hvc_ g2 g1; clear i6 v2; have e7 := zA i5; have v4 := zA i4; clear i5 i4; replace e4 := eq_true e4; replace e5 := eq_true e5
           go_wp2_with (first | ((with_reducible refine zd 15 ?_); refine ze 15 75 #[.int .i64 0, .int .i64 0, .int .i64 0, .int .i64 0, .slice none 0 0] ?_; intro g3 hg G5 hbox hb; replace b4 := zA (Kd.N_below (Kd.N_elderB (zN b4.out) g3 (Nat.le_of_eq hg.symm)) hb); replace d2 := zA (Kd.N_below (Kd.N_elderB (zN d2.out) g3 (Nat.le_of_eq hg.symm)) hb); replace d3 := zA (Kd.V_below (Kd.V_elderB (zV d3.out) g3 (Nat.le_of_eq hg.symm)) hb); replace e7 := zA (Kd.C_below (by repeat (first | (with_reducible exact e7.out) | (with_reducible refine Kd.C_alloc ?_ _) | (with_reducible refine Kd.C_drewN ?_ _) | (with_reducible refine Kd.C_drew ?_) | exact e7.out)) hb); have g4 := zA (hbox); have D1 := zi HB hg; have D2 := zi HB hg; replace HB := zA (below_step (zB) hb); clear hb hbox hg; obtain ⟨G6, G7, G8, G9, I0, I1, I2, I3, I4, I5⟩ := ze5 g4.out) | ((with_reducible refine zq 71 ?_); refine zg (some 76) Tryz.func71 #[.agg #[.int .i64 ((rd_T75 a4 a5).f1.f0), .int .i64 ((rd_T75 a4 a5).f1.f1), .int .i64 ((rd_T75 a4 a5).f1.f2), .slice t8 ((rd_T75 a4 a5).f1.f3).length t9]] ?_; (with_reducible refine (impl_VerOk.calls k4 ((rd_T75 a4 a5).f1.f0) ((rd_T75 a4 a5).f1.f1) ((rd_T75 a4 a5).f1.f2) _ _ ((rd_T75 a4 a5).f1.f3) true _ ?s1 ?s2 y6.out).mono ?_); (case s1 => repeat (first | exact ((Kd.V_reads' (zVt (zv5 d3.out (fun _ hk => hk.2)))).2.2) | (with_reducible refine Kd.C_alloc ?_ _) | (with_reducible refine Kd.C_drewN ?_ _) | (with_reducible refine Kd.C_drew ?_))); (case s2 => exact v4.out); rintro e I6 ⟨rfl, hb⟩; refine ⟨_, rfl, ?_⟩; replace b4 := zA (Kd.N_below (zNt (zn5 b4.out (fun _ hk => hk.2))) hb); replace d2 := zA (Kd.N_below (zNt (zn5 d2.out (fun _ hk => hk.2))) hb); replace e7 := zA (Kd.C_below ((Kd.V_reads' (zVt (zv5 d3.out (fun _ hk => hk.2)))).2.2) hb); replace d3 := zA (Kd.V_below (zVt (zv5 d3.out (fun _ hk => hk.2))) hb); replace g4 := zA (blk_below (zk5 g4.out) hb); replace HB := zh HB hb; (try clear hb)))
           go_roundg k4
           case measure => have := h6.out; have := j2.out; have := j3.out; have := y4.out; omega
           case rel => exact ⟨(wrap64 (a5 + 1)), zS, H', ⟨by have := h6.out; have := j2.out; have := j3.out; have := y4.out; omega⟩, ⟨zNt (Kd.N_mono b4.out (fun _ hk => hk.1))⟩, ⟨zNt (Kd.N_mono d2.out (fun _ hk => hk.1))⟩, ⟨zW HB.out⟩⟩
          simp only [zU] at H; obtain ⟨rfl, rfl⟩ := H; have e4 : 0 ≤ (a5 : Int) := zD; have e5 : a5 < (a4.length : Int) := zD; obtain ⟨C3, t8, t9, v0, C4, C5, C6, C7, v1, i4, i5⟩ := at_T75 (Kd.N_reads' d2.out).2.2 a5 e4 e5; cases v0; obtain ⟨C8, v2, v3, i6⟩ := Kd.N_get d2.out z75 a5 e4 (by first | exact e5 | exact zD | (have e_ := (Kd.N_reads' d2.out).1; omega)); obtain ⟨C9, D0, rfl, g1, g2⟩ := k75_openF v3; have e6 := i6 4 _ rfl; rw [add_field _ _ 4 (by omega)] at e6; replace e6 := Option.some.inj (e6.symm.trans v1); injection e6 with hva_ hvn_ hvc_; rw [hva_] at g2; rw [hvc_] at g1; have d3 := zA (show Kd.V Kd.string 9 _ w.heap.size _ _ ((rd_T75 a4 a5).f1.f3) from Kd.V_mk g1 g2); clear hva_ hvn_ hvc_ g2 g1; clear i6 v2; have e7 := zA i5; have v4 := zA i4; clear i5 i4; replace e4 := eq_true e4; replace e5 := eq_true e5
          go_wp2_with (first | ((with_reducible refine zd 15 ?_); refine ze 15 75 #[.int .i64 0, .int .i64 0, .int .i64 0, .int .i64 0, .slice none 0 0] ?_; intro g3 hg I7 hbox hb; replace b4 := zA (Kd.N_below (Kd.N_elderB (zN b4.out) g3 (Nat.le_of_eq hg.symm)) hb); replace d2 := zA (Kd.N_below (Kd.N_elderB (zN d2.out) g3 (Nat.le_of_eq hg.symm)) hb); replace d3 := zA (Kd.V_below (Kd.V_elderB (zV d3.out) g3 (Nat.le_of_eq hg.symm)) hb); replace e7 := zA (Kd.C_below (by repeat (first | (with_reducible exact e7.out) | (with_reducible refine Kd.C_alloc ?_ _) | (with_reducible refine Kd.C_drewN ?_ _) | (with_reducible refine Kd.C_drew ?_) | exact e7.out)) hb); have g4 := zA (hbox); have D1 := zi HB hg; have D2 := zi HB hg; replace HB := zA (below_step (zB) hb); clear hb hbox hg; obtain ⟨I8, I9, J0, J1, J2, J3, J4, J5, J6, J7⟩ := ze5 g4.out) | ((with_reducible refine zq 71 ?_); refine zg (some 76) Tryz.func71 #[.agg #[.int .i64 ((rd_T75 a4 a5).f1.f0), .int .i64 ((rd_T75 a4 a5).f1.f1), .int .i64 ((rd_T75 a4 a5).f1.f2), .slice t8 ((rd_T75 a4 a5).f1.f3).length t9]] ?_; (with_reducible refine (impl_VerOk.calls k4 ((rd_T75 a4 a5).f1.f0) ((rd_T75 a4 a5).f1.f1) ((rd_T75 a4 a5).f1.f2) _ _ ((rd_T75 a4 a5).f1.f3) false _ ?s1 ?s2 y6.out).mono ?_); (case s1 => repeat (first | exact ((Kd.V_reads' (zVt (zv5 d3.out (fun _ hk => hk.2)))).2.2) | (with_reducible refine Kd.C_alloc ?_ _) | (with_reducible refine Kd.C_drewN ?_ _) | (with_reducible refine Kd.C_drew ?_))); (case s2 => exact v4.out); rintro e J8 ⟨rfl, hb⟩; refine ⟨_, rfl, ?_⟩; replace b4 := zA (Kd.N_below (zNt (zn5 b4.out (fun _ hk => hk.2))) hb); replace d2 := zA (Kd.N_below (zNt (zn5 d2.out (fun _ hk => hk.2))) hb); replace e7 := zA (Kd.C_below ((Kd.V_reads' (zVt (zv5 d3.out (fun _ hk => hk.2)))).2.2) hb); replace d3 := zA (Kd.V_below (zVt (zv5 d3.out (fun _ hk => hk.2))) hb); replace g4 := zA (blk_below (zk5 g4.out) hb); replace HB := zh HB hb; (try clear hb)))
          go_ret2
          exact ⟨_, zE, by first | exact Kd.S_nil _ _ _ _ _ | exact Kd.N_nil _ _ _ _ _ | exact Kd.V_nil _ _ _ _ _ | exact Kd.Q_nil _ _ _ _ _ | exact Kd.R_nil _ _ _ _ _, zW HB.out⟩
         simp only [zU] at H; obtain ⟨rfl, rfl⟩ := H
         go_wp2
         go_ret2
         exact ⟨_, zE, zN b4.out, zB⟩
/-! ### impl_ParseRange: function 32 -/
mutual
def impl_ParseRange.j0 : Nat → List ByteArray → Option ((List (List (S75))) × Bool)
 | 0, _ => none
 | k + 1, x4 => impl_ParseRange.l0 k ([] : List (List (S75))) x4 (x4.length : Int) 0
def impl_ParseRange.l0 : Nat → List (List (S75)) → List ByteArray → Int → Int → Option ((List (List (S75))) × Bool)
 | 0, _, _, _, _ => none
 | k + 1, x5, a1, a2, a0 => if a0 < a2 then (if 0 ≤ a0 then (if a0 < (a1.length : Int) then ((impl_listOf.f k (rdOf ByteArray.empty a1 a0)).bind fun a3 => (if a3.2 = true then (if x5.length < 5864062014805 then (impl_ParseRange.l0 k (x5 ++ [a3.1]) a1 a2 (wrap64 (a0 + 1))) else (none)) else (some (([] : List (List (S75))), false)))) else (none)) else (none)) else (some (x5, true))
end
def impl_ParseRange.f (k : Nat) (a0 : ByteArray) : Option ((List (List (S75))) × Bool) := (strings_Split.f a0 (⟨#[124, 124]⟩ : ByteArray)).bind fun a1 => (if (a1.length : Int) > 4 then (some (([] : List (List (S75))), false)) else (impl_ParseRange.j0 k a1))
theorem impl_ParseRange.calls (k : Nat) (a0 : ByteArray) (r1 : List (List (S75))) (r2 : Bool) (w : World) (hG : GW w) (h : impl_ParseRange.f k a0 = some (r1, r2)) :
  Calls Tryz.prog 32 #[.string a0] w fun e w' => ∃ b9 : Value, e = .returned (.tuple #[b9, .bool r2]) ∧ Kd.N (Kd.slice 75 k75) 108 w' w.heap.size (fun k_ => (w.heap.size ≤ k_)) b9 r1 ∧ Below w.heap.size w w' := by
 have HG := zA hG
 clear hG
 have HB := zA (Below.refl w.heap.size w)
 unfold impl_ParseRange.f at h
 have H := h
 clear h
 replace H := Option.bind_eq_some_iff.mp H
 obtain ⟨a1, c0, H⟩ := H
 try dsimp only at H
 have A2 := zA c0
 clear c0
 have b4 := zA H
 clear H
 go_enter Tryz.func32, Tryz.ntmps32
 go_upto_if 14 with (first | ((with_reducible refine zq 81 ?_); refine zg (some 11) Tryz.func81 #[.string a0, .string (⟨#[124, 124]⟩ : ByteArray)] ?_; (with_reducible refine (strings_Split.calls a0 (⟨#[124, 124]⟩ : ByteArray) a1 _ ?s1 A2.out).mono ?_); (case s1 => exact GW.below HG.out (zB)); rintro e w4 ⟨e3, rfl, a4, hb⟩; refine ⟨_, rfl, ?_⟩; have c1 := zA (Kd.R_lower (Kd.R_newM (M := fun k_ => (w.heap.size ≤ k_)) a4 (below_size (zB)) (fun k_ h_ => h_)) (below_size (zB))); replace HB := zA (below_step (zB) hb); (try clear hb a4); obtain ⟨b5, a6, d1⟩ := Kd.R_slice c1.out; subst d1))
 (try simp only [Act.put, zT])
 go_cut [] (fun wc => ∃ (kq : Nat), Aside0 (impl_ParseRange.j0 kq a1 = some (r1, r2)) ∧ Aside0 (kq ≤ k) ∧ Aside0 (Kd.R Kd.string 9 wc w.heap.size (fun k_ => (w.heap.size ≤ k_)) (.slice b5 a1.length a6) a1) ∧ Aside0 (Below w.heap.size w wc))
 case first =>
  have H := b4.out; clear b4; replace H := zI1 H
  rcases H with ⟨c6, H⟩ | ⟨c6, H⟩
  ·have a7 : decide (4 < (a1.length : Int)) = true := decide_eq_true c6; have b6 : decide (4 < a1.length) = true := decide_eq_true (by omega); clear c6
   (first | rw [a7] | (simp only [i64_w, i32_w]; rw [a7]) | skip)
   simp only [zU] at H; obtain ⟨rfl, rfl⟩ := H
   go_wp2
   go_ret2
   exact ⟨_, zE, by first | exact Kd.R_nil _ _ _ _ _ | exact Kd.N_nil _ _ _ _ _ | exact Kd.V_nil _ _ _ _ _ | exact Kd.Q_nil _ _ _ _ _ | exact Kd.S_nil _ _ _ _ _, zB⟩
  have a7 : decide (4 < (a1.length : Int)) = false := decide_eq_false c6; have b6 : decide (4 < a1.length) = false := decide_eq_false (by omega); clear c6
  (first | rw [a7] | (simp only [i64_w, i32_w]; rw [a7]) | skip)
  have H' := zA H; clear H
  go_wp2
  go_meet
  case rel => exact ⟨_, (by first | exact H' | (subst_vars; exact H')), ⟨by first | omega | exact Nat.le_refl _⟩, ⟨zR (Kd.R_mono c1.out (fun _ hk => hk.1))⟩, ⟨zB⟩⟩
 case rest =>
  clear b4
  try clear p2
  try clear c3
  try clear c6
  try clear a7
  try clear b6
  obtain ⟨kq, HA, c2, d2, HB⟩ := hcut
  cases kq with
  | zero => exact absurd HA.out (by simp [impl_ParseRange.j0])
  | succ c4 =>
   have H := HA.out; clear HA; simp only [impl_ParseRange.j0] at H; have H' := zA H; clear H
   go_wp2
   go_loopg [5, 17] c4 (fun kq v5 d3 w' => ∃ (b1 : List (List (S75))) (a2 : Int), d3 = .int .i64 a2 ∧ Aside0 (impl_ParseRange.l0 kq b1 a1 (a1.length : Int) a2 = some (r1, r2)) ∧ Aside0 (kq ≤ c4) ∧ Aside0 (Kd.N (Kd.slice 75 k75) 108 w' w.heap.size (fun k_ => (w.heap.size ≤ k_) ∧ some k_ ≠ ((.slice b5 a1.length a6) : Value).ownBlock) v5 b1) ∧ Aside0 (Kd.R Kd.string 9 w' w.heap.size (fun k_ => (w.heap.size ≤ k_)) (.slice b5 a1.length a6) a1) ∧ Aside0 (Below w.heap.size w w'))
   case atStart => exact ⟨(([] : List (List (S75)))), (0), zS, H', ⟨Nat.le_refl _⟩, ⟨by first | exact Kd.R_nil _ _ _ _ _ | exact Kd.N_nil _ _ _ _ _ | exact Kd.V_nil _ _ _ _ _ | exact Kd.Q_nil _ _ _ _ _ | exact Kd.S_nil _ _ _ _ _⟩, ⟨zR d2.out⟩, ⟨zB⟩⟩
   case round =>
    clear H'
    try clear p2
    try clear c3
    try clear c6
    try clear a7
    try clear b6
    try clear p2
    obtain ⟨b1, a2, rfl, HA, c5, a5, a3, HB⟩ := hrel
    cases gk with
    | zero => exact absurd HA.out (by simp [impl_ParseRange.l0])
    | succ k2 =>
     have H := HA.out; clear HA; simp only [impl_ParseRange.l0] at H; replace H := zI0 H
     rcases H with ⟨d4, H⟩ | ⟨d4, H⟩
     ·replace H := zD0 H; obtain ⟨e4, H⟩ := H; replace H := zD0 H; obtain ⟨e5, H⟩ := H; replace H := Option.bind_eq_some_iff.mp H; obtain ⟨⟨b2, e6⟩, c7, H⟩ := H
      try dsimp only at H
      have c8 := zA c7; clear c7; replace H := zB0 H
      rcases H with ⟨rfl, H⟩ | ⟨rfl, H⟩
      ·replace H := zC0 H; obtain ⟨c9, H⟩ := H; have d5 := zA c9; clear c9; obtain ⟨d0, b7⟩ : ∃ y_ : List (List (S75)), y_ = (b1 ++ [b2]) := ⟨_, rfl⟩; replace H : (impl_ParseRange.l0 k2 d0 a1 (a1.length : Int) (wrap64 (a2 + 1))) = some (r1, r2) := zY b7 H; have d6 := zA b7; clear b7; have H' := zA H; clear H; have a8 : 0 ≤ (a2 : Int) := zD; have a9 : a2 < (a1.length : Int) := zD; obtain ⟨b0, b8, d7⟩ := Kd.at_string (Kd.R_reads' a3.out).2.2 a2 a8 a9; cases b8; replace a8 := eq_true a8; replace a9 := eq_true a9
       go_wp2_with (first | ((with_reducible refine zq 82 ?_); refine zg (some 23) Tryz.func82 #[.string (rdOf ByteArray.empty a1 a2)] ?_; (with_reducible refine (impl_listOf.calls k2 (rdOf ByteArray.empty a1 a2) b2 true _ ?s1 c8.out).mono ?_); (case s1 => exact GW.below HG.out (zB)); rintro e e7 ⟨d8, rfl, a4, hb⟩; refine ⟨_, rfl, ?_⟩; have b3 := zA (Kd.N_lower (Kd.N_mono (ok' := fun k_ => (w.heap.size ≤ k_) ∧ some k_ ≠ (u5 : Value).ownBlock ∧ some k_ ≠ (.slice (some b0) a1.length a6 : Value).ownBlock) a4 (fun k_ hk_ => ⟨(Nat.le_trans (below_size (zB)) hk_), (Kd.fresh' (Kd.N_lt (zN a5.out)) k_ hk_), (Kd.fresh' (Kd.R_lt (zR a3.out)) k_ hk_)⟩)) (below_size (zB))); replace a5 := zA (Kd.N_elder' (zN a5.out) (Kd.N_base a4) hb); replace a3 := zr a3 hb; replace HB := zA (below_step (zB) hb); (try clear hb a4); obtain ⟨d9, e0, e1⟩ := Kd.N_slice b3.out; subst e1) | ((with_reducible refine gate_builtin (b := .append) (xs := #[.tmp 28, .tmp 30]) rfl ?_); at_builtin; refine Kd.N_append (Kd.slice 75 k75) (w0 := w) w.heap.size rfl (.tmp 28) (.tmp 30) 63 108 (.slice none 0 0) 24 rfl Tryz.underlying63 info108 rfl (by decide) (by omega) u5 b1 b2 [.slice d9 b2.length e0] (fun k_ => (w.heap.size ≤ k_) ∧ some k_ ≠ (.slice (some b0) a1.length a6 : Value).ownBlock) (fun k_ => ((fun k_ => (w.heap.size ≤ k_) ∧ some k_ ≠ (.slice (some b0) a1.length a6 : Value).ownBlock)) k_ ∧ some k_ ≠ (u5 : Value).ownBlock) rfl rfl ?aP (fun _ hk => hk) ?aF ?aO ?aB ?aS ?aL ?_; (case aP => exact (Kd.FK_slice_mk (Kd.N_reads' (Kd.N_mono (ok' := (fun k_ => ((fun k_ => (w.heap.size ≤ k_) ∧ some k_ ≠ (.slice (some b0) a1.length a6 : Value).ownBlock)) k_ ∧ some k_ ≠ (u5 : Value).ownBlock)) (b3.out) (fun k_ hk => ⟨⟨hk.1, hk.2.2⟩, hk.2.1⟩))).2.1 (Kd.N_F (Kd.N_mono (ok' := (fun k_ => ((fun k_ => (w.heap.size ≤ k_) ∧ some k_ ≠ (.slice (some b0) a1.length a6 : Value).ownBlock)) k_ ∧ some k_ ≠ (u5 : Value).ownBlock)) (b3.out) (fun k_ hk => ⟨⟨hk.1, hk.2.2⟩, hk.2.1⟩))))); (case aB => exact (zB)); (case aF => exact (fun k_ hk => ⟨(Nat.le_trans (below_size (zB)) hk), Kd.fresh' (Kd.R_lt (zR a3.out)) k_ hk⟩)); (case aO => exact (zNt (Kd.N_mono a5.out (fun _ hk => ⟨hk.1.1, hk.1.2⟩)))); (case aS => exact (below_size (zB))); (case aL => have := d5.out; omega); intro e8 e9 ho hb hg hat; rw [← d6.out] at ho; replace a3 := zA (Kd.R_over' (zR a3.out) (Kd.N_typed (zN a5.out)) (by decide) hg); replace HB := zA (hb); have e2 := zA (ho); clear a5 b3; clear ho hb hg hat))
       go_roundg k2
       case measure => have := c2.out; have := c5.out; omega
       case rel => exact ⟨(d0), (wrap64 (a2 + 1)), zS, H', ⟨by have := c2.out; have := c5.out; omega⟩, ⟨zN e2.out⟩, ⟨zR a3.out⟩, ⟨zB⟩⟩
      simp only [zU] at H; obtain ⟨rfl, rfl⟩ := H; have a8 : 0 ≤ (a2 : Int) := zD; have a9 : a2 < (a1.length : Int) := zD; obtain ⟨b0, b8, d7⟩ := Kd.at_string (Kd.R_reads' a3.out).2.2 a2 a8 a9; cases b8; replace a8 := eq_true a8; replace a9 := eq_true a9
      go_wp2_with (first | ((with_reducible refine zq 82 ?_); refine zg (some 23) Tryz.func82 #[.string (rdOf ByteArray.empty a1 a2)] ?_; (with_reducible refine (impl_listOf.calls k2 (rdOf ByteArray.empty a1 a2) b2 false _ ?s1 c8.out).mono ?_); (case s1 => exact GW.below HG.out (zB)); rintro e f0 ⟨d8, rfl, a4, hb⟩; refine ⟨_, rfl, ?_⟩; have b3 := zA (Kd.N_lower (Kd.N_mono (ok' := fun k_ => (w.heap.size ≤ k_) ∧ some k_ ≠ (u5 : Value).ownBlock ∧ some k_ ≠ (.slice (some b0) a1.length a6 : Value).ownBlock) a4 (fun k_ hk_ => ⟨(Nat.le_trans (below_size (zB)) hk_), (Kd.fresh' (Kd.N_lt (zN a5.out)) k_ hk_), (Kd.fresh' (Kd.R_lt (zR a3.out)) k_ hk_)⟩)) (below_size (zB))); replace a5 := zA (Kd.N_elder' (zN a5.out) (Kd.N_base a4) hb); replace a3 := zr a3 hb; replace HB := zA (below_step (zB) hb); (try clear hb a4)))
      go_ret2
      exact ⟨_, zE, by first | exact Kd.R_nil _ _ _ _ _ | exact Kd.N_nil _ _ _ _ _ | exact Kd.V_nil _ _ _ _ _ | exact Kd.Q_nil _ _ _ _ _ | exact Kd.S_nil _ _ _ _ _, zB⟩
     simp only [zU] at H; obtain ⟨rfl, rfl⟩ := H
     go_wp2
     go_ret2
     exact ⟨_, zE, zNt (Kd.N_mono a5.out (fun _ hk => hk.1)), zB⟩
/-! ### impl_needOk: function 116 -/
def impl_needOk.f (k : Nat) (a1 a0 : ByteArray) : Option (Bool) := (impl_ParseRange.f k a0).bind fun a2 => (if a2.2 = true then ((impl_NameOk.f k a1).bind fun a3 => (if a3 = true then (some (decide ((a0.size : Int) ≤ 20))) else (some false))) else (some false))
theorem impl_needOk.calls (k : Nat) (a3 a1 : ByteArray) (r : Bool) (w : World) (hG : GW w) (h : impl_needOk.f k a3 a1 = some r) :
  Calls Tryz.prog 116 #[.agg #[.string a3, .string a1]] w fun e w' => e = .returned (.bool r) ∧ Below w.heap.size w w' := by
 have b2 := Tryz.underlying30
 have HG := zA hG
 clear hG
 have HB := zA (Below.refl w.heap.size w)
 unfold impl_needOk.f at h
 have H := h
 clear h
 replace H := Option.bind_eq_some_iff.mp H
 obtain ⟨⟨a5, b3⟩, a6, H⟩ := H
 try dsimp only at H
 have A2 := zA a6
 clear a6
 replace H := zB0 H
 rcases H with ⟨rfl, H⟩ | ⟨rfl, H⟩
 ·replace H := Option.bind_eq_some_iff.mp H; obtain ⟨b4, a7, H⟩ := H
  try dsimp only at H
  have A4 := zA a7; clear a7; replace H := zB0 H
  rcases H with ⟨rfl, H⟩ | ⟨rfl, H⟩
  ·obtain rfl := zm H
   go_enter Tryz.func116, Tryz.ntmps116
   go_wp2_with (first | ((with_reducible refine gate_dst (N := 1) rfl ?_); (try (refine gate_guard (by rfl) ?_; dsimp only)); refine box_event ?hg (N := 1) ?hd (cs := #[.string a3, .string a1]) (t := 30) ?hr ?_; (case hd => rfl); (case hg => rfl); (case hr => first | (go_simp; done) | (go_simp; rfl)); intro a4 hg w6 hbox hb; have a0 := zA (hbox); have a8 := zi HB hg; have a9 := zi HB hg; replace HB := zA (below_step (zB) hb); clear hb hbox hg; obtain ⟨b5, b6, b7, b8⟩ := ze2 a0.out) | ((with_reducible refine zq 32 ?_); refine zg (some 8) Tryz.func32 #[.string a1] ?_; (with_reducible refine (impl_ParseRange.calls k a1 a5 true _ ?s1 A2.out).mono ?_); (case s1 => exact GW.below HG.out (zW HB.out)); rintro e w8 ⟨b0, rfl, a2, hb⟩; refine ⟨_, rfl, ?_⟩; have b1 := zA (Kd.N_lower (Kd.N_mono (ok' := fun k_ => k_ ≠ a4) a2 (fun k_ hk_ => (Kd.freshB (zK a0.out) k_ hk_))) (below_size (zW HB.out))); replace a0 := zb a0 hb; replace HB := zh HB hb; (try clear hb a2); obtain ⟨b9, c0, c1, c2⟩ := ze2 a0.out) | (go_at_call 61; (with_reducible refine (impl_NameOk.calls k a3 true _ A4.out).mono ?_); rintro e w' ⟨rfl, ⟨nd, rfl⟩⟩))
   go_ret
   exact ⟨zE, zW HB.out⟩
  obtain rfl := zm H
  go_enter Tryz.func116, Tryz.ntmps116
  go_wp2_with (first | ((with_reducible refine gate_dst (N := 1) rfl ?_); (try (refine gate_guard (by rfl) ?_; dsimp only)); refine box_event ?hg (N := 1) ?hd (cs := #[.string a3, .string a1]) (t := 30) ?hr ?_; (case hd => rfl); (case hg => rfl); (case hr => first | (go_simp; done) | (go_simp; rfl)); intro a4 hg c3 hbox hb; have a0 := zA (hbox); have a8 := zi HB hg; have a9 := zi HB hg; replace HB := zA (below_step (zB) hb); clear hb hbox hg; obtain ⟨c4, c5, c6, c7⟩ := ze2 a0.out) | ((with_reducible refine zq 32 ?_); refine zg (some 8) Tryz.func32 #[.string a1] ?_; (with_reducible refine (impl_ParseRange.calls k a1 a5 true _ ?s1 A2.out).mono ?_); (case s1 => exact GW.below HG.out (zW HB.out)); rintro e c8 ⟨b0, rfl, a2, hb⟩; refine ⟨_, rfl, ?_⟩; have b1 := zA (Kd.N_lower (Kd.N_mono (ok' := fun k_ => k_ ≠ a4) a2 (fun k_ hk_ => (Kd.freshB (zK a0.out) k_ hk_))) (below_size (zW HB.out))); replace a0 := zb a0 hb; replace HB := zh HB hb; (try clear hb a2); obtain ⟨c9, d0, d1, d2⟩ := ze2 a0.out) | (go_at_call 61; (with_reducible refine (impl_NameOk.calls k a3 false _ A4.out).mono ?_); rintro e w' ⟨rfl, ⟨nd, rfl⟩⟩))
  go_ret
  exact ⟨zE, zW HB.out⟩
 obtain rfl := zm H
 go_enter Tryz.func116, Tryz.ntmps116
 go_wp2_with (first | ((with_reducible refine gate_dst (N := 1) rfl ?_); (try (refine gate_guard (by rfl) ?_; dsimp only)); refine box_event ?hg (N := 1) ?hd (cs := #[.string a3, .string a1]) (t := 30) ?hr ?_; (case hd => rfl); (case hg => rfl); (case hr => first | (go_simp; done) | (go_simp; rfl)); intro a4 hg d3 hbox hb; have a0 := zA (hbox); have a8 := zi HB hg; have a9 := zi HB hg; replace HB := zA (below_step (zB) hb); clear hb hbox hg; obtain ⟨d4, d5, d6, d7⟩ := ze2 a0.out) | ((with_reducible refine zq 32 ?_); refine zg (some 8) Tryz.func32 #[.string a1] ?_; (with_reducible refine (impl_ParseRange.calls k a1 a5 false _ ?s1 A2.out).mono ?_); (case s1 => exact GW.below HG.out (zW HB.out)); rintro e d8 ⟨b0, rfl, a2, hb⟩; refine ⟨_, rfl, ?_⟩; have b1 := zA (Kd.N_lower (Kd.N_mono (ok' := fun k_ => k_ ≠ a4) a2 (fun k_ hk_ => (Kd.freshB (zK a0.out) k_ hk_))) (below_size (zW HB.out))); replace a0 := zb a0 hb; replace HB := zh HB hb; (try clear hb a2)))
 go_ret
 exact ⟨zE, zW HB.out⟩
/-! ### impl_needsOk: function 64 -/
def impl_needsOk.l0 : Nat → List (S30) → List (S30) → Int → Int → Option (Bool)
 | 0, _, _, _, _ => none
 | k + 1, x0, x5, x6, x7 => if x7 < x6 then (if 0 ≤ x7 then (if x7 < (x5.length : Int) then ((impl_needOk.f k ((rd_T30 x5 x7).f0) ((rd_T30 x5 x7).f1)).bind fun a0 => (if a0 = true then (if x7 > 0 then (if 0 ≤ (wrap64 (x7 - 1)) then (if (wrap64 (x7 - 1)) < (x0.length : Int) then (if ((Op.bytesLess (((rd_T30 x0 (wrap64 (x7 - 1))).f0).toList) (((rd_T30 x5 x7).f0).toList)) = true) then (impl_needsOk.l0 k x0 x5 x6 (wrap64 (x7 + 1))) else (some false)) else (none)) else (none)) else (impl_needsOk.l0 k x0 x5 x6 (wrap64 (x7 + 1)))) else (some false))) else (none)) else (none)) else (some (decide ((x0.length : Int) ≤ 4)))
def impl_needsOk.f (k : Nat) (l0 : List (S30)) : Option (Bool) := impl_needsOk.l0 k l0 l0 (l0.length : Int) 0
def impl_needsOk.T4 : Bool × List (List Nat × List Nat) := (true, [([], []), ([0], [0]), ([1], [1]), ([2, 1], [2]), ([3], [3]), ([4, 3], [3, 4]), ([5, 3, 3], [3, 5]), ([6], [6]), ([7, 6], [6, 7]), ([6], [6]), ([6], [6]), ([10, 6], [6, 10]), ([9, 11, 6], [6, 9, 11]), ([12, 6], [6, 12]), ([13, 6], [6, 13]), ([8, 14, 6], [6, 8, 14]), ([6, 15, 3], [3, 6, 15]), ([3, 16], [3, 16])])
def impl_needsOk.B4 : List Nat := [0, 1, 3, 7, 15, 31, 63, 127, 255, 127, 127, 1151, 3711, 7807, 15999, 32767, 65535, 131071]
theorem impl_needsOk.tab4 : rtab .any (opsOf Tryz.f64 4) = impl_needsOk.T4 := by kernel_rfl
theorem impl_needsOk.bits4 : waitsOk impl_needsOk.T4.2 impl_needsOk.B4 = true := by kernel_rfl
theorem impl_needsOk.calls (k : Nat) (A0 : Option Addr) (c0 : Nat) (l0 : List (S30)) (r : Bool) (w : World) (c3 : Kd.C k30 w A0 l0.length l0) (c4 : l0.length ≤ c0) (hG : GW w) (h : impl_needsOk.f k l0 = some r) :
  Calls Tryz.prog 64 #[.slice A0 l0.length c0] w fun e w' => e = .returned (.bool r) ∧ Below w.heap.size w w' := by
 have e0 := Tryz.underlying30
 have b4 := zA c3
 have e1 := zA c4
 clear c3 c4
 have HG := zA hG
 clear hG
 have HB := zA (Below.refl w.heap.size w)
 unfold impl_needsOk.f at h
 have H := h
 clear h
 have H' := zA H
 clear H
 go_enter Tryz.func64, Tryz.ntmps64
 go_wp2
 go_loopg [7] k (fun kq v7 w' => ∃ (a0 : Int), v7 = .int .i64 a0 ∧ Aside0 (impl_needsOk.l0 kq l0 l0 (l0.length : Int) a0 = some r) ∧ Aside0 (kq ≤ k) ∧ Aside0 (Below w.heap.size w w'))
 case atStart => exact ⟨(0), zS, H', ⟨Nat.le_refl _⟩, ⟨zB⟩⟩
 case round =>
  clear H'; obtain ⟨a0, rfl, HA, b7, HB⟩ := hrel
  cases gk with
  | zero => exact absurd HA.out (by simp [impl_needsOk.l0])
  | succ k1 =>
   have H := HA.out; clear HA; simp only [impl_needsOk.l0] at H; replace H := zI0 H
   rcases H with ⟨d1, H⟩ | ⟨d1, H⟩
   ·replace H := zD0 H; obtain ⟨e2, H⟩ := H; replace H := zD0 H; obtain ⟨e3, H⟩ := H; replace H := Option.bind_eq_some_iff.mp H; obtain ⟨e4, c5, H⟩ := H
    try dsimp only at H
    have A5 := zA c5; clear c5; replace H := zB0 H
    rcases H with ⟨rfl, H⟩ | ⟨rfl, H⟩
    ·replace H := zI1 H
     rcases H with ⟨c7, H⟩ | ⟨c7, H⟩
     ·have d2 : decide (0 < a0) = true := decide_eq_true c7; clear c7; obtain ⟨a3, b5⟩ : ∃ j_ : Int, (wrap64 (a0 - 1)) = j_ := ⟨_, rfl⟩
      replace H : (if 0 ≤ (a3) then (if (a3) < (l0.length : Int) then (if ((Op.bytesLess (((rd_T30 l0 (a3)).f0).toList) (((rd_T30 l0 a0).f0).toList)) = true) then (impl_needsOk.l0 k1 l0 l0 (l0.length : Int) (wrap64 (a0 + 1))) else (some false)) else (none)) else (none)) = some r := by first | (rw [b5] at H; exact H) | (simp only [b5] at H ⊢; exact H)
      (try rw [b5] at A5)
      have hji8w : (IntKind.i64.wrap (a0 - 1)) = a3 := (i64_w _).trans b5; replace H := zD0 H; obtain ⟨e5, H⟩ := H; replace H := zD0 H; obtain ⟨e6, H⟩ := H; replace H := zI1 H
      rcases H with ⟨b6, H⟩ | ⟨b6, H⟩
      ·have d3 : (Op.bytesLess (((rd_T30 l0 (a3)).f0).toList) (((rd_T30 l0 a0).f0).toList)) = true := b6; clear b6; have H' := zA H; clear H; have a4 : 0 ≤ (a0 : Int) := zD; have a5 : a0 < (l0.length : Int) := zD; obtain ⟨a6, b1, a7, a8⟩ := at_T30 b4.out a0 a4 a5; cases b1; replace a7 := zx HB a7; replace a8 := zx HB a8; replace a4 := eq_true a4; replace a5 := eq_true a5
       try go_wp2_with (first | ((with_reducible refine zd 4 ?_); refine ze 4 30 #[.string (⟨#[]⟩ : ByteArray), .string (⟨#[]⟩ : ByteArray)] ?_; intro a2 hg d4 hbox hb; have a1 := zA (hbox); have b8 := zi HB hg; have b9 := zi HB hg; replace HB := zA (below_step (zB) hb); clear hb hbox hg; obtain ⟨e7, e8, e9, f2⟩ := ze2 a1.out))
       generalize hW_ : ((d4.setCell ⟨a2, 0, none⟩ (.string ((rd_T30 l0 a0).f0))).setCell ⟨a2, 1, none⟩ (.string ((rd_T30 l0 a0).f1))) = c6; replace a1 : Aside0 (c6.heap[a2]? = some (.cells #[.string ((rd_T30 l0 a0).f0), .string ((rd_T30 l0 a0).f1)] 30 (0, 0))) := ⟨by subst hW_; (with_reducible repeat (first | refine blk_drewN ?_ _ | refine blk_drew ?_ | refine blk_alloc ?_ _)); refine blk_put (cs := #[.string ((rd_T30 l0 a0).f0), .string (⟨#[]⟩ : ByteArray)]) ?_ 1 _ rfl; (with_reducible repeat (first | refine blk_drewN ?_ _ | refine blk_drew ?_ | refine blk_alloc ?_ _)); refine blk_put (cs := #[.string (⟨#[]⟩ : ByteArray), .string (⟨#[]⟩ : ByteArray)]) ?_ 0 _ rfl; (with_reducible repeat (first | refine blk_drewN ?_ _ | refine blk_drew ?_ | refine blk_alloc ?_ _)); exact a1.out⟩; replace HB := zA (zh2 hW_.symm (zW HB.out)); clear hW_; replace a1 := zA (blk_drew a1.out); replace HB := zA (below_drew1 HB.out); have b2 : 0 ≤ ((a3) : Int) := zD; have b3 : (a3) < (l0.length : Int) := zD; obtain ⟨c1, c2, a9, b0⟩ := at_T30 b4.out (a3) b2 b3; have d5 := b0; have d6 := a9; obtain rfl : a6 = c1 := (by injection c2); replace a9 := zx HB a9; replace b0 := zx HB b0; replace b2 := eq_true b2; replace b3 := eq_true b3
       refine start_ (n := 18) (S := fun w' => w'.cell? ⟨a2, 0, none⟩ = some (.string ((rd_T30 l0 a0).f0)) ∧ w'.cell? ⟨a2, 1, none⟩ = some (.string ((rd_T30 l0 a0).f1)) ∧ w'.cell? (a6.add (((a3)).toNat * 2)) = some (.string ((rd_T30 l0 (a3)).f0)) ∧ w'.cell? ⟨(a6.add (((a3)).toNat * 2)).block, (a6.add (((a3)).toNat * 2)).off + 1, none⟩ = some (.string ((rd_T30 l0 (a3)).f1))) (ds := []) (Array.replicate 18 false) (by kernel_rfl) rfl rfl zO fun hHeld => ?_; refine with_tabW impl_needsOk.tab4 impl_needsOk.bits4 (fun HT_ HW_ => ?_)
       generalize c6.drew = f3 at a1 HB a9 b0 hHeld ⊢; refine zt 0 12 ?_
       refine zo 1 (some 13) fun K hK => ?_
       refine goes_ Tryz.func116 (by kernel_rfl) rfl #[.agg #[.string ((rd_T30 l0 a0).f0), .string ((rd_T30 l0 a0).f1)]] (by rfl) rfl rfl zM ?_
       with_reducible refine (impl_needOk.calls k1 ((rd_T30 l0 a0).f0) ((rd_T30 l0 a0).f1) true _ ?s1 A5.out).mono ?_
       (case s1 => exact GW.below HG.out (zW HB.out))
       rintro e f4 ⟨rfl, hb⟩
       refine ⟨_, rfl, ?_⟩
       replace a1 := zb a1 hb; replace HB := zh HB hb
       (try clear hb)
       refine hK.out _ _ zO fun hHeld => ?_
       clear hK K; refine zn ?_; refine zp 2 14 ?_; refine zp 3 15 ?_; refine zp 4 16 ?_; refine zp 5 17 ?_; refine zp 6 18 ?_; refine zp 7 19 ?_; refine zp 9 21 ?_; refine zp 10 22 ?_; refine zp 11 23 ?_; refine zp 12 24 ?_; refine zp 13 25 ?_; refine zt 8 20 ?_; refine zt 14 26 ?_; refine zp 15 27 ?_; refine zp 16 28 ?_; refine zp 17 29 ?_
       refine done_ (done_of HT_.out (by kernel_rfl)) ?_
       try go_wp2
       go_roundg k1
       case measure => have := b7.out; omega
       case rel => exact ⟨(wrap64 (a0 + 1)), zS, H', ⟨by have := b7.out; omega⟩, ⟨zW HB.out⟩⟩
      have d3 : (Op.bytesLess (((rd_T30 l0 (a3)).f0).toList) (((rd_T30 l0 a0).f0).toList)) = false := by simpa using b6
      clear b6; obtain rfl := zm H; have a4 : 0 ≤ (a0 : Int) := zD; have a5 : a0 < (l0.length : Int) := zD; obtain ⟨a6, b1, a7, a8⟩ := at_T30 b4.out a0 a4 a5; cases b1; replace a7 := zx HB a7; replace a8 := zx HB a8; replace a4 := eq_true a4; replace a5 := eq_true a5
      try go_wp2_with (first | ((with_reducible refine zd 4 ?_); refine ze 4 30 #[.string (⟨#[]⟩ : ByteArray), .string (⟨#[]⟩ : ByteArray)] ?_; intro a2 hg d7 hbox hb; have a1 := zA (hbox); have b8 := zi HB hg; have b9 := zi HB hg; replace HB := zA (below_step (zB) hb); clear hb hbox hg; obtain ⟨f5, f6, f7, f8⟩ := ze2 a1.out))
      generalize hW_ : ((d7.setCell ⟨a2, 0, none⟩ (.string ((rd_T30 l0 a0).f0))).setCell ⟨a2, 1, none⟩ (.string ((rd_T30 l0 a0).f1))) = c8; replace a1 : Aside0 (c8.heap[a2]? = some (.cells #[.string ((rd_T30 l0 a0).f0), .string ((rd_T30 l0 a0).f1)] 30 (0, 0))) := ⟨by subst hW_; (with_reducible repeat (first | refine blk_drewN ?_ _ | refine blk_drew ?_ | refine blk_alloc ?_ _)); refine blk_put (cs := #[.string ((rd_T30 l0 a0).f0), .string (⟨#[]⟩ : ByteArray)]) ?_ 1 _ rfl; (with_reducible repeat (first | refine blk_drewN ?_ _ | refine blk_drew ?_ | refine blk_alloc ?_ _)); refine blk_put (cs := #[.string (⟨#[]⟩ : ByteArray), .string (⟨#[]⟩ : ByteArray)]) ?_ 0 _ rfl; (with_reducible repeat (first | refine blk_drewN ?_ _ | refine blk_drew ?_ | refine blk_alloc ?_ _)); exact a1.out⟩; replace HB := zA (zh2 hW_.symm (zW HB.out)); clear hW_; replace a1 := zA (blk_drew a1.out); replace HB := zA (below_drew1 HB.out); have b2 : 0 ≤ ((a3) : Int) := zD; have b3 : (a3) < (l0.length : Int) := zD; obtain ⟨c1, c2, a9, b0⟩ := at_T30 b4.out (a3) b2 b3; have d5 := b0; have d6 := a9; obtain rfl : a6 = c1 := (by injection c2); replace a9 := zx HB a9; replace b0 := zx HB b0; replace b2 := eq_true b2; replace b3 := eq_true b3
      refine start_ (n := 18) (S := fun w' => w'.cell? ⟨a2, 0, none⟩ = some (.string ((rd_T30 l0 a0).f0)) ∧ w'.cell? ⟨a2, 1, none⟩ = some (.string ((rd_T30 l0 a0).f1)) ∧ w'.cell? (a6.add (((a3)).toNat * 2)) = some (.string ((rd_T30 l0 (a3)).f0)) ∧ w'.cell? ⟨(a6.add (((a3)).toNat * 2)).block, (a6.add (((a3)).toNat * 2)).off + 1, none⟩ = some (.string ((rd_T30 l0 (a3)).f1))) (ds := []) (Array.replicate 18 false) (by kernel_rfl) rfl rfl zO fun hHeld => ?_; refine with_tabW impl_needsOk.tab4 impl_needsOk.bits4 (fun HT_ HW_ => ?_)
      generalize c8.drew = f9 at a1 HB a9 b0 hHeld ⊢; refine zt 0 12 ?_
      refine zo 1 (some 13) fun K hK => ?_
      refine goes_ Tryz.func116 (by kernel_rfl) rfl #[.agg #[.string ((rd_T30 l0 a0).f0), .string ((rd_T30 l0 a0).f1)]] (by rfl) rfl rfl zM ?_
      with_reducible refine (impl_needOk.calls k1 ((rd_T30 l0 a0).f0) ((rd_T30 l0 a0).f1) true _ ?s1 A5.out).mono ?_
      (case s1 => exact GW.below HG.out (zW HB.out))
      rintro e g0 ⟨rfl, hb⟩
      refine ⟨_, rfl, ?_⟩
      replace a1 := zb a1 hb; replace HB := zh HB hb
      (try clear hb)
      refine hK.out _ _ zO fun hHeld => ?_
      clear hK K; refine zn ?_; refine zp 2 14 ?_; refine zp 3 15 ?_; refine zp 4 16 ?_; refine zp 5 17 ?_; refine zp 6 18 ?_; refine zp 7 19 ?_; refine zp 9 21 ?_; refine zp 10 22 ?_; refine zp 11 23 ?_; refine zp 12 24 ?_; refine zp 13 25 ?_; refine zt 8 20 ?_; refine zt 14 26 ?_; refine zp 15 27 ?_; refine zp 16 28 ?_; refine zp 17 29 ?_
      refine done_ (done_of HT_.out (by kernel_rfl)) ?_
      try go_wp2
      go_ret
      exact ⟨by first | rfl | (simp [errW_none, errW_some] <;> rfl) | (simp only [← b5]; first | rfl | (simp [errW_none, errW_some] <;> rfl)) | (simp [*, errW_none, errW_some] <;> rfl), zW HB.out⟩
     have d2 : decide (0 < a0) = false := decide_eq_false c7; clear c7; have H' := zA H; clear H; have a4 : 0 ≤ (a0 : Int) := zD; have a5 : a0 < (l0.length : Int) := zD; obtain ⟨a6, b1, a7, a8⟩ := at_T30 b4.out a0 a4 a5; cases b1; replace a7 := zx HB a7; replace a8 := zx HB a8; replace a4 := eq_true a4; replace a5 := eq_true a5
     try go_wp2_with (first | ((with_reducible refine zd 4 ?_); refine ze 4 30 #[.string (⟨#[]⟩ : ByteArray), .string (⟨#[]⟩ : ByteArray)] ?_; intro a2 hg d8 hbox hb; have a1 := zA (hbox); have b8 := zi HB hg; have b9 := zi HB hg; replace HB := zA (below_step (zB) hb); clear hb hbox hg; obtain ⟨g1, g2, g3, g4⟩ := ze2 a1.out))
     generalize hW_ : ((d8.setCell ⟨a2, 0, none⟩ (.string ((rd_T30 l0 a0).f0))).setCell ⟨a2, 1, none⟩ (.string ((rd_T30 l0 a0).f1))) = c9; replace a1 : Aside0 (c9.heap[a2]? = some (.cells #[.string ((rd_T30 l0 a0).f0), .string ((rd_T30 l0 a0).f1)] 30 (0, 0))) := ⟨by subst hW_; (with_reducible repeat (first | refine blk_drewN ?_ _ | refine blk_drew ?_ | refine blk_alloc ?_ _)); refine blk_put (cs := #[.string ((rd_T30 l0 a0).f0), .string (⟨#[]⟩ : ByteArray)]) ?_ 1 _ rfl; (with_reducible repeat (first | refine blk_drewN ?_ _ | refine blk_drew ?_ | refine blk_alloc ?_ _)); refine blk_put (cs := #[.string (⟨#[]⟩ : ByteArray), .string (⟨#[]⟩ : ByteArray)]) ?_ 0 _ rfl; (with_reducible repeat (first | refine blk_drewN ?_ _ | refine blk_drew ?_ | refine blk_alloc ?_ _)); exact a1.out⟩; replace HB := zA (zh2 hW_.symm (zW HB.out)); clear hW_; replace a1 := zA (blk_drew a1.out); replace HB := zA (below_drew1 HB.out)
     refine start_ (n := 18) (S := fun w' => w'.cell? ⟨a2, 0, none⟩ = some (.string ((rd_T30 l0 a0).f0)) ∧ w'.cell? ⟨a2, 1, none⟩ = some (.string ((rd_T30 l0 a0).f1))) (ds := []) (Array.replicate 18 false) (by kernel_rfl) rfl rfl zO fun hHeld => ?_; refine with_tabW impl_needsOk.tab4 impl_needsOk.bits4 (fun HT_ HW_ => ?_)
     generalize c9.drew = g5 at a1 HB hHeld ⊢; refine zt 0 12 ?_
     refine zo 1 (some 13) fun K hK => ?_
     refine goes_ Tryz.func116 (by kernel_rfl) rfl #[.agg #[.string ((rd_T30 l0 a0).f0), .string ((rd_T30 l0 a0).f1)]] (by rfl) rfl rfl zM ?_
     with_reducible refine (impl_needOk.calls k1 ((rd_T30 l0 a0).f0) ((rd_T30 l0 a0).f1) true _ ?s1 A5.out).mono ?_
     (case s1 => exact GW.below HG.out (zW HB.out))
     rintro e g6 ⟨rfl, hb⟩
     refine ⟨_, rfl, ?_⟩
     replace a1 := zb a1 hb; replace HB := zh HB hb
     (try clear hb)
     refine hK.out _ _ zO fun hHeld => ?_
     clear hK K; refine zn ?_; refine zp 2 14 ?_; refine zp 3 15 ?_; refine zp 4 16 ?_; refine zp 5 17 ?_; refine zp 6 18 ?_; refine zu 7 19 ?_; refine zu 8 20 ?_; refine zu 9 21 ?_; refine zu 10 22 ?_; refine zu 11 23 ?_; refine zu 12 24 ?_; refine zu 13 25 ?_; refine zu 14 26 ?_; refine zu 15 27 ?_; refine zp 16 28 ?_; refine zp 17 29 ?_
     refine done_ (done_of HT_.out (by kernel_rfl)) ?_
     try go_wp2
     go_roundg k1
     case measure => have := b7.out; omega
     case rel => exact ⟨(wrap64 (a0 + 1)), zS, H', ⟨by have := b7.out; omega⟩, ⟨zW HB.out⟩⟩
    obtain rfl := zm H; have a4 : 0 ≤ (a0 : Int) := zD; have a5 : a0 < (l0.length : Int) := zD; obtain ⟨a6, b1, a7, a8⟩ := at_T30 b4.out a0 a4 a5; cases b1; replace a7 := zx HB a7; replace a8 := zx HB a8; replace a4 := eq_true a4; replace a5 := eq_true a5
    try go_wp2_with (first | ((with_reducible refine zd 4 ?_); refine ze 4 30 #[.string (⟨#[]⟩ : ByteArray), .string (⟨#[]⟩ : ByteArray)] ?_; intro a2 hg d9 hbox hb; have a1 := zA (hbox); have b8 := zi HB hg; have b9 := zi HB hg; replace HB := zA (below_step (zB) hb); clear hb hbox hg; obtain ⟨g7, g8, g9, h0⟩ := ze2 a1.out))
    generalize hW_ : ((d9.setCell ⟨a2, 0, none⟩ (.string ((rd_T30 l0 a0).f0))).setCell ⟨a2, 1, none⟩ (.string ((rd_T30 l0 a0).f1))) = d0; replace a1 : Aside0 (d0.heap[a2]? = some (.cells #[.string ((rd_T30 l0 a0).f0), .string ((rd_T30 l0 a0).f1)] 30 (0, 0))) := ⟨by subst hW_; (with_reducible repeat (first | refine blk_drewN ?_ _ | refine blk_drew ?_ | refine blk_alloc ?_ _)); refine blk_put (cs := #[.string ((rd_T30 l0 a0).f0), .string (⟨#[]⟩ : ByteArray)]) ?_ 1 _ rfl; (with_reducible repeat (first | refine blk_drewN ?_ _ | refine blk_drew ?_ | refine blk_alloc ?_ _)); refine blk_put (cs := #[.string (⟨#[]⟩ : ByteArray), .string (⟨#[]⟩ : ByteArray)]) ?_ 0 _ rfl; (with_reducible repeat (first | refine blk_drewN ?_ _ | refine blk_drew ?_ | refine blk_alloc ?_ _)); exact a1.out⟩; replace HB := zA (zh2 hW_.symm (zW HB.out)); clear hW_; replace a1 := zA (blk_drew a1.out); replace HB := zA (below_drew1 HB.out)
    refine start_ (n := 18) (S := fun w' => w'.cell? ⟨a2, 0, none⟩ = some (.string ((rd_T30 l0 a0).f0)) ∧ w'.cell? ⟨a2, 1, none⟩ = some (.string ((rd_T30 l0 a0).f1))) (ds := []) (Array.replicate 18 false) (by kernel_rfl) rfl rfl zO fun hHeld => ?_; refine with_tabW impl_needsOk.tab4 impl_needsOk.bits4 (fun HT_ HW_ => ?_)
    generalize d0.drew = h1 at a1 HB hHeld ⊢; refine zt 0 12 ?_
    refine zo 1 (some 13) fun K hK => ?_
    refine goes_ Tryz.func116 (by kernel_rfl) rfl #[.agg #[.string ((rd_T30 l0 a0).f0), .string ((rd_T30 l0 a0).f1)]] (by rfl) rfl rfl zM ?_
    with_reducible refine (impl_needOk.calls k1 ((rd_T30 l0 a0).f0) ((rd_T30 l0 a0).f1) false _ ?s1 A5.out).mono ?_
    (case s1 => exact GW.below HG.out (zW HB.out))
    rintro e h2 ⟨rfl, hb⟩
    refine ⟨_, rfl, ?_⟩
    replace a1 := zb a1 hb; replace HB := zh HB hb
    (try clear hb)
    refine hK.out _ _ zO fun hHeld => ?_
    clear hK K; refine zn ?_; refine zp 2 14 ?_; refine zp 3 15 ?_; refine zu 4 16 ?_; refine zu 5 17 ?_; refine zu 6 18 ?_; refine zu 7 19 ?_; refine zu 8 20 ?_; refine zu 9 21 ?_; refine zu 10 22 ?_; refine zu 11 23 ?_; refine zu 12 24 ?_; refine zu 13 25 ?_; refine zu 14 26 ?_; refine zu 15 27 ?_; refine zu 16 28 ?_; refine zp 17 29 ?_
    refine done_ (done_of HT_.out (by kernel_rfl)) ?_
    try go_wp2
    go_ret
    exact ⟨zE, zW HB.out⟩
   obtain rfl := zm H
   go_wp2
   go_ret
   exact ⟨zE, zB⟩
/-! ### impl_PackOk: function 19 -/
def impl_PackOk.l0 : Nat → List (S93) → Int → Int → ByteArray → List ByteArray → List (S30) → List (S93) → Option (Bool)
 | 0, _, _, _, _, _, _, _ => none
 | k + 1, x6, x7, x8, a2, a1, a3, a0 => if x8 < x7 then (if 0 ≤ x8 then (if x8 < (x6.length : Int) then ((impl_cmdOk.f k ((rd_T93 x6 x8).f0) ((rd_T93 x6 x8).f1)).bind fun a4 => (if a4 = true then (if x8 > 0 then (if 0 ≤ (wrap64 (x8 - 1)) then (if (wrap64 (x8 - 1)) < (a0.length : Int) then (if ((Op.bytesLess (((rd_T93 a0 (wrap64 (x8 - 1))).f0).toList) (((rd_T93 x6 x8).f0).toList)) = true) then (impl_PackOk.l0 k x6 x7 (wrap64 (x8 + 1)) a2 a1 a3 a0) else (some false)) else (none)) else (none)) else (impl_PackOk.l0 k x6 x7 (wrap64 (x8 + 1)) a2 a1 a3 a0)) else (some false))) else (none)) else (none)) else ((impl_NameOk.f k a2).bind fun a5 => (if a5 = true then ((impl_namesOk.f k a1 4).bind fun a6 => (if a6 = true then ((impl_isAscending.f k a1).bind fun a7 => (if a7 = true then ((impl_needsOk.f k a3).bind fun a8 => (if a8 = true then (some (decide ((a0.length : Int) ≤ 4))) else (some false))) else (some false))) else (some false))) else (some false)))
def impl_PackOk.f (k : Nat) (a1 : ByteArray) (a2 : List ByteArray) (a3 : List (S30)) (a0 : List (S93)) : Option (Bool) := impl_PackOk.l0 k a0 (a0.length : Int) 0 a1 a2 a3 a0
def impl_PackOk.T4 : Bool × List (List Nat × List Nat) := (true, [([], []), ([0], [0]), ([1], [1]), ([2, 1], [2]), ([3], [3]), ([4, 3], [3, 4]), ([5, 3, 3], [3, 5]), ([6], [6]), ([7, 6], [6, 7]), ([6], [6]), ([9, 6], [6, 9]), ([6], [6]), ([11, 6], [6, 11]), ([10, 12, 6], [6, 10, 12]), ([13, 6], [6, 13]), ([14, 6], [6, 14]), ([8, 15, 6], [6, 8, 15]), ([6, 16, 3], [3, 6, 16]), ([3, 17], [3, 17])])
def impl_PackOk.B4 : List Nat := [0, 1, 3, 7, 15, 31, 63, 127, 255, 127, 639, 127, 2175, 7807, 15999, 32383, 65535, 131071, 262143]
theorem impl_PackOk.tab4 : rtab .any (opsOf Tryz.f19 4) = impl_PackOk.T4 := by kernel_rfl
theorem impl_PackOk.bits4 : waitsOk impl_PackOk.T4.2 impl_PackOk.B4 = true := by kernel_rfl
theorem impl_PackOk.calls (k : Nat) (a8 : ByteArray) (d2 : Option Addr) (d3 : Nat) (a9 : List ByteArray) (d4 : Option Addr) (d5 : Nat) (b2 : List (S30)) (e3 : Option Addr) (d6 : Nat) (a0 : List (S93)) (r : Bool) (w : World) (f6 : Kd.C Kd.string w d2 a9.length a9) (f7 : a9.length ≤ d3) (f8 : Kd.C k30 w d4 b2.length b2) (f9 : b2.length ≤ d5) (g0 : Kd.C k93 w e3 a0.length a0) (g1 : a0.length ≤ d6) (hG : GW w) (h : impl_PackOk.f k a8 a9 b2 a0 = some r) :
  Calls Tryz.prog 19 #[.agg #[.string a8, .slice d2 a9.length d3, .slice d4 b2.length d5, .slice e3 a0.length d6]] w fun e w' => e = .returned (.bool r) ∧ Below w.heap.size w w' := by
 have j2 := Tryz.underlying45
 have j3 := Tryz.underlying93
 have c2 := zA f6
 have c3 := zA f7
 clear f6 f7
 have g2 := zA f8
 have g3 := zA f9
 clear f8 f9
 have d7 := zA g0
 have j4 := zA g1
 clear g0 g1
 have HG := zA hG
 clear hG
 have HB := zA (Below.refl w.heap.size w)
 unfold impl_PackOk.f at h
 have H := h
 clear h
 have H' := zA H
 clear H
 go_enter Tryz.func19, Tryz.ntmps19
 go_wp2_with (first | ((with_reducible refine gate_dst (N := 1) rfl ?_); (try (refine gate_guard (by rfl) ?_; dsimp only)); refine box_event ?hg (N := 1) ?hd (cs := #[.string a8, .slice d2 a9.length d3, .slice d4 b2.length d5, .slice e3 a0.length d6]) (t := 45) ?hr ?_; (case hd => rfl); (case hg => rfl); (case hr => first | (go_simp; done) | (go_simp; rfl)); intro b8 hg w2 hbox hb; have a2 := zA (hbox); have j5 := zi HB hg; have j6 := zi HB hg; replace HB := zA (below_step (zB) hb); clear hb hbox hg; obtain ⟨h4, h5, h6, h7, h8, h9, i0, i1⟩ := ze4 a2.out))
 go_loopg [8] k (fun kq v8 w' => ∃ (a1 : Int), v8 = .int .i64 a1 ∧ Aside0 (impl_PackOk.l0 kq a0 (a0.length : Int) a1 a8 a9 b2 a0 = some r) ∧ Aside0 (kq ≤ k) ∧ Aside0 (w'.heap[b8]? = some (.cells #[.string a8, (.slice d2 a9.length d3), (.slice d4 b2.length d5), (.slice e3 a0.length d6)] 45 (0, 0))) ∧ Aside0 (Below w.heap.size w w'))
 case atStart => exact ⟨(0), zS, H', ⟨Nat.le_refl _⟩, ⟨zK a2.out⟩, ⟨zW HB.out⟩⟩
 case round =>
  clear H'
  try clear c1
  try clear p2
  try clear h4 h5 h6 h7 h8 h9 i0 i1
  obtain ⟨a1, rfl, HA, e4, a2, HB⟩ := hrel
  cases gk with
  | zero => exact absurd HA.out (by simp [impl_PackOk.l0])
  | succ k1 =>
   have H := HA.out; clear HA; simp only [impl_PackOk.l0] at H; replace H := zI0 H
   rcases H with ⟨i2, H⟩ | ⟨i2, H⟩
   ·replace H := zD0 H; obtain ⟨j7, H⟩ := H; replace H := zD0 H; obtain ⟨j8, H⟩ := H; replace H := Option.bind_eq_some_iff.mp H; obtain ⟨j9, g4, H⟩ := H
    try dsimp only at H
    have A7 := zA g4; clear g4; replace H := zB0 H
    rcases H with ⟨rfl, H⟩ | ⟨rfl, H⟩
    ·replace H := zI1 H
     rcases H with ⟨c9, H⟩ | ⟨c9, H⟩
     ·have i3 : decide (0 < a1) = true := decide_eq_true c9; clear c9; obtain ⟨a5, d8⟩ : ∃ j_ : Int, (wrap64 (a1 - 1)) = j_ := ⟨_, rfl⟩
      replace H : (if 0 ≤ (a5) then (if (a5) < (a0.length : Int) then (if ((Op.bytesLess (((rd_T93 a0 (a5)).f0).toList) (((rd_T93 a0 a1).f0).toList)) = true) then (impl_PackOk.l0 k1 a0 (a0.length : Int) (wrap64 (a1 + 1)) a8 a9 b2 a0) else (some false)) else (none)) else (none)) = some r := by first | (rw [d8] at H; exact H) | (simp only [d8] at H ⊢; exact H)
      (try rw [d8] at A7)
      have hji10w : (IntKind.i64.wrap (a1 - 1)) = a5 := (i64_w _).trans d8; replace H := zD0 H; obtain ⟨k0, H⟩ := H; replace H := zD0 H; obtain ⟨k2, H⟩ := H; replace H := zI1 H
      rcases H with ⟨d9, H⟩ | ⟨d9, H⟩
      ·have i4 : (Op.bytesLess (((rd_T93 a0 (a5)).f0).toList) (((rd_T93 a0 a1).f0).toList)) = true := d9; clear d9; have H' := zA H; clear H; have b0 : 0 ≤ (a1 : Int) := zD; have b1 : a1 < (a0.length : Int) := zD; obtain ⟨b3, a6, a7, c4, b4, b5, b6, b7⟩ := at_T93 d7.out a1 b0 b1; cases c4; replace b4 := zx HB b4; replace b5 := zx HB b5; have c5 := zA b7; have c6 := zA b6; clear b7 b6; replace b0 := eq_true b0; replace b1 := eq_true b1
       try go_wp2_with (first | ((with_reducible refine gate_dst (N := 4) rfl ?_); (try (refine gate_guard (by rfl) ?_; dsimp only)); refine box_event ?hg (N := 4) ?hd (cs := #[.string (⟨#[]⟩ : ByteArray), .slice none 0 0]) (t := 93) ?hr ?_; (case hd => rfl); (case hg => rfl); (case hr => first | (go_simp; done) | (go_simp; rfl)); intro a4 hg i5 hbox hb; have a3 := zA (hbox); have e6 := zi HB hg; have e7 := zi HB hg; replace HB := zh HB hb; have c7 := zA (zL hg (zK a2.out)); have c8 := zA (zJ hg (zK a2.out)); replace a2 := zb a2 hb; clear hb hbox hg; have k3 := c8.out; have k4 := c7.out; obtain ⟨k5, k6, k7, k8⟩ := ze2 a3.out))
       generalize hW_ : ((i5.setCell ⟨a4, 0, none⟩ (.string ((rd_T93 a0 a1).f0))).setCell ⟨a4, 1, none⟩ (.slice a6 ((rd_T93 a0 a1).f1).length a7)) = g5; replace a2 := zA (zh1 hW_.symm (zK a2.out)); replace a3 : Aside0 (g5.heap[a4]? = some (.cells #[.string ((rd_T93 a0 a1).f0), .slice a6 ((rd_T93 a0 a1).f1).length a7] 93 (0, 0))) := ⟨by subst hW_; (with_reducible repeat (first | refine blk_drewN ?_ _ | refine blk_drew ?_ | refine blk_alloc ?_ _)); refine blk_put (cs := #[.string ((rd_T93 a0 a1).f0), .slice none 0 0]) ?_ 1 _ rfl; (with_reducible repeat (first | refine blk_drewN ?_ _ | refine blk_drew ?_ | refine blk_alloc ?_ _)); refine blk_put (cs := #[.string (⟨#[]⟩ : ByteArray), .slice none 0 0]) ?_ 0 _ rfl; (with_reducible repeat (first | refine blk_drewN ?_ _ | refine blk_drew ?_ | refine blk_alloc ?_ _)); exact a3.out⟩; replace HB := zA (zh2 hW_.symm (zW HB.out)); clear hW_; replace a2 := zA (blk_drew a2.out); replace a3 := zA (blk_drew a3.out); replace HB := zA (below_drew1 HB.out); have d0 : 0 ≤ ((a5) : Int) := zD; have d1 : (a5) < (a0.length : Int) := zD; obtain ⟨e8, e9, f2, f3, b9, c0, e0, e1⟩ := at_T93 d7.out (a5) d0 d1; have i6 := c0; have i7 := b9; obtain rfl : b3 = e8 := (by injection f3); replace b9 := zx HB b9; replace c0 := zx HB c0; have f4 := zA e1; have i8 := zA e0; clear e1 e0; replace d0 := eq_true d0; replace d1 := eq_true d1
       refine start_ (n := 19) (S := fun w' => w'.cell? ⟨a4, 0, none⟩ = some (.string ((rd_T93 a0 a1).f0)) ∧ w'.cell? ⟨a4, 1, none⟩ = some (.slice a6 ((rd_T93 a0 a1).f1).length a7) ∧ w'.cell? ⟨b8, 0, none⟩ = some (.string a8) ∧ w'.cell? ⟨b8, 1, none⟩ = some (.slice d2 a9.length d3) ∧ w'.cell? ⟨b8, 2, none⟩ = some (.slice d4 b2.length d5) ∧ w'.cell? ⟨b8, 3, none⟩ = some (.slice (some b3) a0.length d6) ∧ w'.cell? (b3.add (((a5)).toNat * 2)) = some (.string ((rd_T93 a0 (a5)).f0)) ∧ w'.cell? ⟨(b3.add (((a5)).toNat * 2)).block, (b3.add (((a5)).toNat * 2)).off + 1, none⟩ = some (.slice e9 ((rd_T93 a0 (a5)).f1).length f2)) (ds := []) (Array.replicate 19 false) (by kernel_rfl) rfl rfl zO fun hHeld => ?_; refine with_tabW impl_PackOk.tab4 impl_PackOk.bits4 (fun HT_ HW_ => ?_)
       generalize g5.drew = k9 at a2 a3 HB f4 b9 c0 hHeld ⊢; refine zt 0 13 ?_
       refine zo 1 (some 14) fun K hK => ?_
       refine goes_ Tryz.func60 (by kernel_rfl) rfl #[.agg #[.string ((rd_T93 a0 a1).f0), .slice a6 ((rd_T93 a0 a1).f1).length a7]] (by rfl) rfl rfl zM ?_
       with_reducible refine (impl_cmdOk.calls k1 ((rd_T93 a0 a1).f0) _ _ ((rd_T93 a0 a1).f1) true _ ?s1 ?s2 A7.out).mono ?_
       (case s1 => exact zC (Kd.C_below c5.out HB.out))
       (case s2 => exact c6.out)
       rintro e l1 ⟨rfl, hb⟩
       refine ⟨_, rfl, ?_⟩
       replace a2 := zb a2 hb; replace a3 := zb a3 hb; replace HB := zh HB hb
       (try clear hb)
       refine hK.out _ _ zO fun hHeld => ?_
       clear hK K; refine zn ?_; refine zp 2 15 ?_; refine zp 3 16 ?_; refine zp 4 17 ?_; refine zp 5 18 ?_; refine zp 6 19 ?_; refine zp 7 20 ?_; refine zp 9 22 ?_; refine zp 11 24 ?_; refine zp 12 25 ?_; refine zt 8 21 ?_; refine zt 10 23 ?_; refine zp 13 26 ?_; refine zp 14 27 ?_; refine zt 15 28 ?_; refine zp 16 29 ?_; refine zp 17 30 ?_; refine zp 18 31 ?_
       refine done_ (done_of HT_.out (by kernel_rfl)) ?_
       try go_wp2
       go_roundg k1
       case measure => have := e4.out; omega
       case rel => exact ⟨(wrap64 (a1 + 1)), zS, H', ⟨by have := e4.out; omega⟩, ⟨zK a2.out⟩, ⟨zW HB.out⟩⟩
      have i4 : (Op.bytesLess (((rd_T93 a0 (a5)).f0).toList) (((rd_T93 a0 a1).f0).toList)) = false := by simpa using d9
      clear d9; obtain rfl := zm H; have b0 : 0 ≤ (a1 : Int) := zD; have b1 : a1 < (a0.length : Int) := zD; obtain ⟨b3, a6, a7, c4, b4, b5, b6, b7⟩ := at_T93 d7.out a1 b0 b1; cases c4; replace b4 := zx HB b4; replace b5 := zx HB b5; have c5 := zA b7; have c6 := zA b6; clear b7 b6; replace b0 := eq_true b0; replace b1 := eq_true b1
      try go_wp2_with (first | ((with_reducible refine gate_dst (N := 4) rfl ?_); (try (refine gate_guard (by rfl) ?_; dsimp only)); refine box_event ?hg (N := 4) ?hd (cs := #[.string (⟨#[]⟩ : ByteArray), .slice none 0 0]) (t := 93) ?hr ?_; (case hd => rfl); (case hg => rfl); (case hr => first | (go_simp; done) | (go_simp; rfl)); intro a4 hg i9 hbox hb; have a3 := zA (hbox); have e6 := zi HB hg; have e7 := zi HB hg; replace HB := zh HB hb; have c7 := zA (zL hg (zK a2.out)); have c8 := zA (zJ hg (zK a2.out)); replace a2 := zb a2 hb; clear hb hbox hg; have l2 := c8.out; have l3 := c7.out; obtain ⟨l4, l5, l6, l7⟩ := ze2 a3.out))
      generalize hW_ : ((i9.setCell ⟨a4, 0, none⟩ (.string ((rd_T93 a0 a1).f0))).setCell ⟨a4, 1, none⟩ (.slice a6 ((rd_T93 a0 a1).f1).length a7)) = g6; replace a2 := zA (zh1 hW_.symm (zK a2.out)); replace a3 : Aside0 (g6.heap[a4]? = some (.cells #[.string ((rd_T93 a0 a1).f0), .slice a6 ((rd_T93 a0 a1).f1).length a7] 93 (0, 0))) := ⟨by subst hW_; (with_reducible repeat (first | refine blk_drewN ?_ _ | refine blk_drew ?_ | refine blk_alloc ?_ _)); refine blk_put (cs := #[.string ((rd_T93 a0 a1).f0), .slice none 0 0]) ?_ 1 _ rfl; (with_reducible repeat (first | refine blk_drewN ?_ _ | refine blk_drew ?_ | refine blk_alloc ?_ _)); refine blk_put (cs := #[.string (⟨#[]⟩ : ByteArray), .slice none 0 0]) ?_ 0 _ rfl; (with_reducible repeat (first | refine blk_drewN ?_ _ | refine blk_drew ?_ | refine blk_alloc ?_ _)); exact a3.out⟩; replace HB := zA (zh2 hW_.symm (zW HB.out)); clear hW_; replace a2 := zA (blk_drew a2.out); replace a3 := zA (blk_drew a3.out); replace HB := zA (below_drew1 HB.out); have d0 : 0 ≤ ((a5) : Int) := zD; have d1 : (a5) < (a0.length : Int) := zD; obtain ⟨e8, e9, f2, f3, b9, c0, e0, e1⟩ := at_T93 d7.out (a5) d0 d1; have i6 := c0; have i7 := b9; obtain rfl : b3 = e8 := (by injection f3); replace b9 := zx HB b9; replace c0 := zx HB c0; have f4 := zA e1; have i8 := zA e0; clear e1 e0; replace d0 := eq_true d0; replace d1 := eq_true d1
      refine start_ (n := 19) (S := fun w' => w'.cell? ⟨a4, 0, none⟩ = some (.string ((rd_T93 a0 a1).f0)) ∧ w'.cell? ⟨a4, 1, none⟩ = some (.slice a6 ((rd_T93 a0 a1).f1).length a7) ∧ w'.cell? ⟨b8, 0, none⟩ = some (.string a8) ∧ w'.cell? ⟨b8, 1, none⟩ = some (.slice d2 a9.length d3) ∧ w'.cell? ⟨b8, 2, none⟩ = some (.slice d4 b2.length d5) ∧ w'.cell? ⟨b8, 3, none⟩ = some (.slice (some b3) a0.length d6) ∧ w'.cell? (b3.add (((a5)).toNat * 2)) = some (.string ((rd_T93 a0 (a5)).f0)) ∧ w'.cell? ⟨(b3.add (((a5)).toNat * 2)).block, (b3.add (((a5)).toNat * 2)).off + 1, none⟩ = some (.slice e9 ((rd_T93 a0 (a5)).f1).length f2)) (ds := []) (Array.replicate 19 false) (by kernel_rfl) rfl rfl zO fun hHeld => ?_; refine with_tabW impl_PackOk.tab4 impl_PackOk.bits4 (fun HT_ HW_ => ?_)
      generalize g6.drew = l8 at a2 a3 HB f4 b9 c0 hHeld ⊢; refine zt 0 13 ?_
      refine zo 1 (some 14) fun K hK => ?_
      refine goes_ Tryz.func60 (by kernel_rfl) rfl #[.agg #[.string ((rd_T93 a0 a1).f0), .slice a6 ((rd_T93 a0 a1).f1).length a7]] (by rfl) rfl rfl zM ?_
      with_reducible refine (impl_cmdOk.calls k1 ((rd_T93 a0 a1).f0) _ _ ((rd_T93 a0 a1).f1) true _ ?s1 ?s2 A7.out).mono ?_
      (case s1 => exact zC (Kd.C_below c5.out HB.out))
      (case s2 => exact c6.out)
      rintro e l9 ⟨rfl, hb⟩
      refine ⟨_, rfl, ?_⟩
      replace a2 := zb a2 hb; replace a3 := zb a3 hb; replace HB := zh HB hb
      (try clear hb)
      refine hK.out _ _ zO fun hHeld => ?_
      clear hK K; refine zn ?_; refine zp 2 15 ?_; refine zp 3 16 ?_; refine zp 4 17 ?_; refine zp 5 18 ?_; refine zp 6 19 ?_; refine zp 7 20 ?_; refine zp 9 22 ?_; refine zp 11 24 ?_; refine zp 12 25 ?_; refine zt 8 21 ?_; refine zt 10 23 ?_; refine zp 13 26 ?_; refine zp 14 27 ?_; refine zt 15 28 ?_; refine zp 16 29 ?_; refine zp 17 30 ?_; refine zp 18 31 ?_
      refine done_ (done_of HT_.out (by kernel_rfl)) ?_
      try go_wp2
      go_ret
      exact ⟨by first | rfl | (simp [errW_none, errW_some] <;> rfl) | (simp only [← d8]; first | rfl | (simp [errW_none, errW_some] <;> rfl)) | (simp [*, errW_none, errW_some] <;> rfl), zW HB.out⟩
     have i3 : decide (0 < a1) = false := decide_eq_false c9; clear c9; have H' := zA H; clear H; have b0 : 0 ≤ (a1 : Int) := zD; have b1 : a1 < (a0.length : Int) := zD; obtain ⟨b3, a6, a7, c4, b4, b5, b6, b7⟩ := at_T93 d7.out a1 b0 b1; cases c4; replace b4 := zx HB b4; replace b5 := zx HB b5; have c5 := zA b7; have c6 := zA b6; clear b7 b6; replace b0 := eq_true b0; replace b1 := eq_true b1
     try go_wp2_with (first | ((with_reducible refine gate_dst (N := 4) rfl ?_); (try (refine gate_guard (by rfl) ?_; dsimp only)); refine box_event ?hg (N := 4) ?hd (cs := #[.string (⟨#[]⟩ : ByteArray), .slice none 0 0]) (t := 93) ?hr ?_; (case hd => rfl); (case hg => rfl); (case hr => first | (go_simp; done) | (go_simp; rfl)); intro a4 hg j0 hbox hb; have a3 := zA (hbox); have e6 := zi HB hg; have e7 := zi HB hg; replace HB := zh HB hb; have c7 := zA (zL hg (zK a2.out)); have c8 := zA (zJ hg (zK a2.out)); replace a2 := zb a2 hb; clear hb hbox hg; have m0 := c8.out; have m1 := c7.out; obtain ⟨m2, m3, m4, m5⟩ := ze2 a3.out))
     generalize hW_ : ((j0.setCell ⟨a4, 0, none⟩ (.string ((rd_T93 a0 a1).f0))).setCell ⟨a4, 1, none⟩ (.slice a6 ((rd_T93 a0 a1).f1).length a7)) = g7; replace a2 := zA (zh1 hW_.symm (zK a2.out)); replace a3 : Aside0 (g7.heap[a4]? = some (.cells #[.string ((rd_T93 a0 a1).f0), .slice a6 ((rd_T93 a0 a1).f1).length a7] 93 (0, 0))) := ⟨by subst hW_; (with_reducible repeat (first | refine blk_drewN ?_ _ | refine blk_drew ?_ | refine blk_alloc ?_ _)); refine blk_put (cs := #[.string ((rd_T93 a0 a1).f0), .slice none 0 0]) ?_ 1 _ rfl; (with_reducible repeat (first | refine blk_drewN ?_ _ | refine blk_drew ?_ | refine blk_alloc ?_ _)); refine blk_put (cs := #[.string (⟨#[]⟩ : ByteArray), .slice none 0 0]) ?_ 0 _ rfl; (with_reducible repeat (first | refine blk_drewN ?_ _ | refine blk_drew ?_ | refine blk_alloc ?_ _)); exact a3.out⟩; replace HB := zA (zh2 hW_.symm (zW HB.out)); clear hW_; replace a2 := zA (blk_drew a2.out); replace a3 := zA (blk_drew a3.out); replace HB := zA (below_drew1 HB.out)
     refine start_ (n := 19) (S := fun w' => w'.cell? ⟨a4, 0, none⟩ = some (.string ((rd_T93 a0 a1).f0)) ∧ w'.cell? ⟨a4, 1, none⟩ = some (.slice a6 ((rd_T93 a0 a1).f1).length a7)) (ds := []) (Array.replicate 19 false) (by kernel_rfl) rfl rfl zO fun hHeld => ?_; refine with_tabW impl_PackOk.tab4 impl_PackOk.bits4 (fun HT_ HW_ => ?_)
     generalize g7.drew = m6 at a2 a3 HB hHeld ⊢; refine zt 0 13 ?_
     refine zo 1 (some 14) fun K hK => ?_
     refine goes_ Tryz.func60 (by kernel_rfl) rfl #[.agg #[.string ((rd_T93 a0 a1).f0), .slice a6 ((rd_T93 a0 a1).f1).length a7]] (by rfl) rfl rfl zM ?_
     with_reducible refine (impl_cmdOk.calls k1 ((rd_T93 a0 a1).f0) _ _ ((rd_T93 a0 a1).f1) true _ ?s1 ?s2 A7.out).mono ?_
     (case s1 => exact zC (Kd.C_below c5.out HB.out))
     (case s2 => exact c6.out)
     rintro e m7 ⟨rfl, hb⟩
     refine ⟨_, rfl, ?_⟩
     replace a2 := zb a2 hb; replace a3 := zb a3 hb; replace HB := zh HB hb
     (try clear hb)
     refine hK.out _ _ zO fun hHeld => ?_
     clear hK K; refine zn ?_; refine zp 2 15 ?_; refine zp 3 16 ?_; refine zp 4 17 ?_; refine zp 5 18 ?_; refine zp 6 19 ?_; refine zu 7 20 ?_; refine zu 8 21 ?_; refine zu 9 22 ?_; refine zu 10 23 ?_; refine zu 11 24 ?_; refine zu 12 25 ?_; refine zu 13 26 ?_; refine zu 14 27 ?_; refine zu 15 28 ?_; refine zu 16 29 ?_; refine zp 17 30 ?_; refine zp 18 31 ?_
     refine done_ (done_of HT_.out (by kernel_rfl)) ?_
     try go_wp2
     go_roundg k1
     case measure => have := e4.out; omega
     case rel => exact ⟨(wrap64 (a1 + 1)), zS, H', ⟨by have := e4.out; omega⟩, ⟨zK a2.out⟩, ⟨zW HB.out⟩⟩
    obtain rfl := zm H; have b0 : 0 ≤ (a1 : Int) := zD; have b1 : a1 < (a0.length : Int) := zD; obtain ⟨b3, a6, a7, c4, b4, b5, b6, b7⟩ := at_T93 d7.out a1 b0 b1; cases c4; replace b4 := zx HB b4; replace b5 := zx HB b5; have c5 := zA b7; have c6 := zA b6; clear b7 b6; replace b0 := eq_true b0; replace b1 := eq_true b1
    try go_wp2_with (first | ((with_reducible refine gate_dst (N := 4) rfl ?_); (try (refine gate_guard (by rfl) ?_; dsimp only)); refine box_event ?hg (N := 4) ?hd (cs := #[.string (⟨#[]⟩ : ByteArray), .slice none 0 0]) (t := 93) ?hr ?_; (case hd => rfl); (case hg => rfl); (case hr => first | (go_simp; done) | (go_simp; rfl)); intro a4 hg j1 hbox hb; have a3 := zA (hbox); have e6 := zi HB hg; have e7 := zi HB hg; replace HB := zh HB hb; have c7 := zA (zL hg (zK a2.out)); have c8 := zA (zJ hg (zK a2.out)); replace a2 := zb a2 hb; clear hb hbox hg; have m8 := c8.out; have m9 := c7.out; obtain ⟨n0, n1, n2, n3⟩ := ze2 a3.out))
    generalize hW_ : ((j1.setCell ⟨a4, 0, none⟩ (.string ((rd_T93 a0 a1).f0))).setCell ⟨a4, 1, none⟩ (.slice a6 ((rd_T93 a0 a1).f1).length a7)) = g8; replace a2 := zA (zh1 hW_.symm (zK a2.out)); replace a3 : Aside0 (g8.heap[a4]? = some (.cells #[.string ((rd_T93 a0 a1).f0), .slice a6 ((rd_T93 a0 a1).f1).length a7] 93 (0, 0))) := ⟨by subst hW_; (with_reducible repeat (first | refine blk_drewN ?_ _ | refine blk_drew ?_ | refine blk_alloc ?_ _)); refine blk_put (cs := #[.string ((rd_T93 a0 a1).f0), .slice none 0 0]) ?_ 1 _ rfl; (with_reducible repeat (first | refine blk_drewN ?_ _ | refine blk_drew ?_ | refine blk_alloc ?_ _)); refine blk_put (cs := #[.string (⟨#[]⟩ : ByteArray), .slice none 0 0]) ?_ 0 _ rfl; (with_reducible repeat (first | refine blk_drewN ?_ _ | refine blk_drew ?_ | refine blk_alloc ?_ _)); exact a3.out⟩; replace HB := zA (zh2 hW_.symm (zW HB.out)); clear hW_; replace a2 := zA (blk_drew a2.out); replace a3 := zA (blk_drew a3.out); replace HB := zA (below_drew1 HB.out)
    refine start_ (n := 19) (S := fun w' => w'.cell? ⟨a4, 0, none⟩ = some (.string ((rd_T93 a0 a1).f0)) ∧ w'.cell? ⟨a4, 1, none⟩ = some (.slice a6 ((rd_T93 a0 a1).f1).length a7)) (ds := []) (Array.replicate 19 false) (by kernel_rfl) rfl rfl zO fun hHeld => ?_; refine with_tabW impl_PackOk.tab4 impl_PackOk.bits4 (fun HT_ HW_ => ?_)
    generalize g8.drew = n4 at a2 a3 HB hHeld ⊢; refine zt 0 13 ?_
    refine zo 1 (some 14) fun K hK => ?_
    refine goes_ Tryz.func60 (by kernel_rfl) rfl #[.agg #[.string ((rd_T93 a0 a1).f0), .slice a6 ((rd_T93 a0 a1).f1).length a7]] (by rfl) rfl rfl zM ?_
    with_reducible refine (impl_cmdOk.calls k1 ((rd_T93 a0 a1).f0) _ _ ((rd_T93 a0 a1).f1) false _ ?s1 ?s2 A7.out).mono ?_
    (case s1 => exact zC (Kd.C_below c5.out HB.out))
    (case s2 => exact c6.out)
    rintro e n5 ⟨rfl, hb⟩
    refine ⟨_, rfl, ?_⟩
    replace a2 := zb a2 hb; replace a3 := zb a3 hb; replace HB := zh HB hb
    (try clear hb)
    refine hK.out _ _ zO fun hHeld => ?_
    clear hK K; refine zn ?_; refine zp 2 15 ?_; refine zp 3 16 ?_; refine zu 4 17 ?_; refine zu 5 18 ?_; refine zu 6 19 ?_; refine zu 7 20 ?_; refine zu 8 21 ?_; refine zu 9 22 ?_; refine zu 10 23 ?_; refine zu 11 24 ?_; refine zu 12 25 ?_; refine zu 13 26 ?_; refine zu 14 27 ?_; refine zu 15 28 ?_; refine zu 16 29 ?_; refine zu 17 30 ?_; refine zp 18 31 ?_
    refine done_ (done_of HT_.out (by kernel_rfl)) ?_
    try go_wp2
    go_ret
    exact ⟨zE, zW HB.out⟩
   replace H := Option.bind_eq_some_iff.mp H; obtain ⟨n6, g9, H⟩ := H
   try dsimp only at H
   have e2 := zA g9; clear g9; replace H := zB0 H
   rcases H with ⟨rfl, H⟩ | ⟨rfl, H⟩
   ·replace H := Option.bind_eq_some_iff.mp H; obtain ⟨n7, h0, H⟩ := H
    try dsimp only at H
    have e5 := zA h0; clear h0; replace H := zB0 H
    rcases H with ⟨rfl, H⟩ | ⟨rfl, H⟩
    ·replace H := Option.bind_eq_some_iff.mp H; obtain ⟨n8, h1, H⟩ := H
     try dsimp only at H
     have f5 := zA h1; clear h1; replace H := zB0 H
     rcases H with ⟨rfl, H⟩ | ⟨rfl, H⟩
     ·replace H := Option.bind_eq_some_iff.mp H; obtain ⟨n9, h2, H⟩ := H
      try dsimp only at H
      have h3 := zA h2; clear h2; replace H := zB0 H
      rcases H with ⟨rfl, H⟩ | ⟨rfl, H⟩
      ·obtain rfl := zm H; obtain ⟨o0, o1, o2, o3, o4, o5, o6, o7⟩ := ze4 a2.out
       go_wp2_with (first | ((with_reducible refine zq 61 ?_); refine zg (some 35) Tryz.func61 #[.string a8] ?_; (with_reducible refine (impl_NameOk.calls k1 a8 true _ e2.out).mono ?_); rintro e w' ⟨rfl, ⟨nd, rfl⟩⟩; refine ⟨_, rfl, ?_⟩) | (go_at_call 62; (with_reducible refine (impl_namesOk.calls k1 _ _ a9 4 true _ ?s1 ?s2 e5.out).mono ?_); (case s1 => repeat (first | exact (Kd.C_below c2.out (zW HB.out)) | (with_reducible refine Kd.C_alloc ?_ _) | (with_reducible refine Kd.C_drewN ?_ _) | (with_reducible refine Kd.C_drew ?_))); (case s2 => exact c3.out); rintro e w' ⟨rfl, ⟨nd, rfl⟩⟩) | (go_at_call 63; (with_reducible refine (impl_isAscending.calls k1 _ _ a9 true _ ?s1 ?s2 f5.out).mono ?_); (case s1 => repeat (first | exact (Kd.C_below c2.out (zW HB.out)) | (with_reducible refine Kd.C_alloc ?_ _) | (with_reducible refine Kd.C_drewN ?_ _) | (with_reducible refine Kd.C_drew ?_))); (case s2 => exact c3.out); rintro e w' ⟨rfl, ⟨nd, rfl⟩⟩) | (go_at_call 64; (with_reducible refine (impl_needsOk.calls k1 _ _ b2 true _ ?s1 ?s2 ?s3 h3.out).mono ?_); (case s1 => repeat (first | exact (Kd.C_below g2.out (zW HB.out)) | (with_reducible refine Kd.C_alloc ?_ _) | (with_reducible refine Kd.C_drewN ?_ _) | (with_reducible refine Kd.C_drew ?_))); (case s2 => exact g3.out); (case s3 => exact GW.below HG.out (zW HB.out)); rintro e o8 ⟨rfl, hb⟩; replace a2 := zb a2 hb; replace HB := zh HB hb; (try clear hb); obtain ⟨o9, p0, p1, p3, p4, p5, p6, p7⟩ := ze4 a2.out))
       go_ret
       exact ⟨zE, zW HB.out⟩
      obtain rfl := zm H; obtain ⟨p8, p9, q0, q1, q2, q3, q4, q5⟩ := ze4 a2.out
      go_wp2_with (first | ((with_reducible refine zq 61 ?_); refine zg (some 35) Tryz.func61 #[.string a8] ?_; (with_reducible refine (impl_NameOk.calls k1 a8 true _ e2.out).mono ?_); rintro e w' ⟨rfl, ⟨nd, rfl⟩⟩; refine ⟨_, rfl, ?_⟩) | (go_at_call 62; (with_reducible refine (impl_namesOk.calls k1 _ _ a9 4 true _ ?s1 ?s2 e5.out).mono ?_); (case s1 => repeat (first | exact (Kd.C_below c2.out (zW HB.out)) | (with_reducible refine Kd.C_alloc ?_ _) | (with_reducible refine Kd.C_drewN ?_ _) | (with_reducible refine Kd.C_drew ?_))); (case s2 => exact c3.out); rintro e w' ⟨rfl, ⟨nd, rfl⟩⟩) | (go_at_call 63; (with_reducible refine (impl_isAscending.calls k1 _ _ a9 true _ ?s1 ?s2 f5.out).mono ?_); (case s1 => repeat (first | exact (Kd.C_below c2.out (zW HB.out)) | (with_reducible refine Kd.C_alloc ?_ _) | (with_reducible refine Kd.C_drewN ?_ _) | (with_reducible refine Kd.C_drew ?_))); (case s2 => exact c3.out); rintro e w' ⟨rfl, ⟨nd, rfl⟩⟩) | (go_at_call 64; (with_reducible refine (impl_needsOk.calls k1 _ _ b2 false _ ?s1 ?s2 ?s3 h3.out).mono ?_); (case s1 => repeat (first | exact (Kd.C_below g2.out (zW HB.out)) | (with_reducible refine Kd.C_alloc ?_ _) | (with_reducible refine Kd.C_drewN ?_ _) | (with_reducible refine Kd.C_drew ?_))); (case s2 => exact g3.out); (case s3 => exact GW.below HG.out (zW HB.out)); rintro e q6 ⟨rfl, hb⟩; replace a2 := zb a2 hb; replace HB := zh HB hb; (try clear hb)))
      go_ret
      exact ⟨zE, zW HB.out⟩
     obtain rfl := zm H; obtain ⟨q7, q8, q9, r0, r1, r2, r3, r4⟩ := ze4 a2.out
     go_wp2_with (first | ((with_reducible refine zq 61 ?_); refine zg (some 35) Tryz.func61 #[.string a8] ?_; (with_reducible refine (impl_NameOk.calls k1 a8 true _ e2.out).mono ?_); rintro e w' ⟨rfl, ⟨nd, rfl⟩⟩; refine ⟨_, rfl, ?_⟩) | (go_at_call 62; (with_reducible refine (impl_namesOk.calls k1 _ _ a9 4 true _ ?s1 ?s2 e5.out).mono ?_); (case s1 => repeat (first | exact (Kd.C_below c2.out (zW HB.out)) | (with_reducible refine Kd.C_alloc ?_ _) | (with_reducible refine Kd.C_drewN ?_ _) | (with_reducible refine Kd.C_drew ?_))); (case s2 => exact c3.out); rintro e w' ⟨rfl, ⟨nd, rfl⟩⟩) | (go_at_call 63; (with_reducible refine (impl_isAscending.calls k1 _ _ a9 false _ ?s1 ?s2 f5.out).mono ?_); (case s1 => repeat (first | exact (Kd.C_below c2.out (zW HB.out)) | (with_reducible refine Kd.C_alloc ?_ _) | (with_reducible refine Kd.C_drewN ?_ _) | (with_reducible refine Kd.C_drew ?_))); (case s2 => exact c3.out); rintro e w' ⟨rfl, ⟨nd, rfl⟩⟩))
     go_ret
     exact ⟨zE, zW HB.out⟩
    obtain rfl := zm H; obtain ⟨r5, r6, r7, r8, r9, t0, t1, t2⟩ := ze4 a2.out
    go_wp2_with (first | ((with_reducible refine zq 61 ?_); refine zg (some 35) Tryz.func61 #[.string a8] ?_; (with_reducible refine (impl_NameOk.calls k1 a8 true _ e2.out).mono ?_); rintro e w' ⟨rfl, ⟨nd, rfl⟩⟩; refine ⟨_, rfl, ?_⟩) | (go_at_call 62; (with_reducible refine (impl_namesOk.calls k1 _ _ a9 4 false _ ?s1 ?s2 e5.out).mono ?_); (case s1 => repeat (first | exact (Kd.C_below c2.out (zW HB.out)) | (with_reducible refine Kd.C_alloc ?_ _) | (with_reducible refine Kd.C_drewN ?_ _) | (with_reducible refine Kd.C_drew ?_))); (case s2 => exact c3.out); rintro e w' ⟨rfl, ⟨nd, rfl⟩⟩))
    go_ret
    exact ⟨zE, zW HB.out⟩
   obtain rfl := zm H; obtain ⟨t3, t4, t5, t6, t7, t8, t9, v0⟩ := ze4 a2.out
   go_wp2_with (first | ((with_reducible refine zq 61 ?_); refine zg (some 35) Tryz.func61 #[.string a8] ?_; (with_reducible refine (impl_NameOk.calls k1 a8 false _ e2.out).mono ?_); rintro e w' ⟨rfl, ⟨nd, rfl⟩⟩; refine ⟨_, rfl, ?_⟩))
   go_ret
   exact ⟨zE, zW HB.out⟩
end Go.Proofs.YtpcdhoeoefoeoaaGreatDoor.PGE
namespace Go.Proofs.YtpcdhoeoefoeoaaGreatDoor.PGE
open Go.RowKit YtpcdhoeoefoeoaaGreatDoorW.PrintWords YtpcdhoeoefoeoaaGreatDoorW.PrintLast YtpcdhoeoefoeoaaGreatDoorW.PrintMore
attribute [local go_sem high] Mine.str_gtr Mine.str_leq Mine.str_geq
attribute [local go_sem] max2_int min2_int max_two min_two max_three min_three max_four min_four   -- for this text's walks alone
set_option linter.unusedVariables false
set_option maxHeartbeats 8000000
set_option maxRecDepth 100000
set_option linter.unusedSimpArgs false
-- NOT PRINTED: function 122 (impl_Pack)
/-! ### impl_FindPack: function 75 -/
theorem impl_FindPack_pred (gb : Nat) (path a0 : ByteArray) (a1 : Option Addr) (a2 : Nat) (a3 : List ByteArray) (a4 : Option Addr) (a5 : Nat) (a6 : List (S30)) (a7 : Option Addr) (a8 : Nat) (a9 : List (S93)) (w : World) (hp : w.cell? ⟨gb, 0, none⟩ = some (.string path)) :
  Calls Tryz.prog 123 #[.agg #[.string a0, .slice a1 a3.length a2, .slice a4 a6.length a5, .slice a7 a9.length a8], .pointer (some ⟨gb, 0, none⟩)] w fun e w' => e = .returned (.bool (a0.toList == path.toList)) ∧ Below w.heap.size w w' := by
 have hlt : gb < w.heap.size := World.block_lt_of_cell? w _ hp
 have hne : gb ≠ w.heap.size := by omega
 go_enter Tryz.func123, Tryz.ntmps123
 go_wp2
 go_ret
 exact ⟨rfl, below_alloc (Below.refl _ _) _⟩
/-- The first place from i on at which a test holds; -1 without one. -/
def impl_FindPack_idx (p : S45 → Bool) (l : List S45) (i : Nat) : Int := match (l.drop i).findIdx? p with | some j => ((i + j : Nat) : Int) | none => -1
theorem impl_FindPack_idx_hit (p : S45 → Bool) (l : List S45) (i : Nat) (h : i < l.length) (hp : p l[i] = true) : impl_FindPack_idx p l i = (i : Int) := by
 unfold impl_FindPack_idx
 rw [List.drop_eq_getElem_cons h, List.findIdx?_cons, hp]
 simp
theorem impl_FindPack_idx_step (p : S45 → Bool) (l : List S45) (i : Nat) (h : i < l.length) (hp : p l[i] = false) : impl_FindPack_idx p l i = impl_FindPack_idx p l (i + 1) := by
 unfold impl_FindPack_idx
 rw [List.drop_eq_getElem_cons h, List.findIdx?_cons, hp]
 cases (l.drop (i + 1)).findIdx? p with
 | none => simp
 | some j => simp; omega
theorem impl_FindPack_idx_end (p : S45 → Bool) (l : List S45) (i : Nat) (h : l.length ≤ i) : impl_FindPack_idx p l i = -1 := by
 unfold impl_FindPack_idx
 rw [List.drop_eq_nil_of_le h]
 rfl
set_option maxHeartbeats 2000000 in
set_option maxRecDepth 100000 in
theorem impl_FindPack_index (p : S45 → Bool) (gb : Nat) (A0 : Option Addr) (c0 : Nat) (l0 : List S45) (w0 w : World) (hB : Below w0.heap.size w0 w) (a1 : Kd.C k45 w0 A0 l0.length l0) (a9 : l0.length ≤ c0)
  (hp : ∀ (W : World) (x : S45) (cs : List Value), Below w.heap.size w W → k45.K W x cs → Calls Tryz.prog 123 #[.agg cs.toArray, .pointer (some ⟨gb, 0, none⟩)] W fun e w' => e = .returned (.bool (p x)) ∧ Below w.heap.size w w') :
  Calls Tryz.prog 122 #[.slice A0 l0.length c0, .func (.func 123) #[] #[.pointer (some ⟨gb, 0, none⟩)]] w fun e w' => e = .returned (.int .i64 (impl_FindPack_idx p l0 0)) ∧ Below w.heap.size w w' := by
 have hmax : l0.length ≤ 9223372036854775807 := a1.2.1
 have b0 := zA a1
 have HP := zA hp
 have HB := zA hB
 clear a1 a9 hp hB
 go_enter Tryz.func122, Tryz.ntmps122
 go_wp2
 go_loopg [5, 8] l0.length (fun gg _ s8 wr => ∃ kk : Nat, kk ≤ l0.length ∧ l0.length - kk ≤ gg ∧ s8 = .int .i64 kk ∧ Aside0 (Below w.heap.size w wr) ∧ Aside0 (impl_FindPack_idx p l0 kk = impl_FindPack_idx p l0 0))
 case atStart => exact ⟨0, Nat.zero_le _, by omega, rfl, ⟨Below.refl _ w⟩, ⟨rfl⟩⟩
 case round =>
  obtain ⟨kk, hkk, hg, rfl, BW, A⟩ := hrel
  by_cases hlt : kk < l0.length
  ·have hltz : (kk : Int) < (l0.length : Int) := by omega
   have h0z : (0 : Int) ≤ (kk : Int) := by omega
   have a0 : Below w0.heap.size w0 wr := below_then HB.out HB.out.size BW.out; obtain ⟨ad, b4, b5, b6, b7, b8, b9, e', a2, a3, a4, a5, b1, a6, b2, a7, b3, a8⟩ := at_T45 b0.out (kk : Int) h0z hltz
   cases e'
   rw [Int.toNat_natCast] at a2; replace a2 := pw_cell_below a0 a2; rw [Int.toNat_natCast] at a3; replace a3 := pw_cell_below a0 a3; rw [Int.toNat_natCast] at a4; replace a4 := pw_cell_below a0 a4; rw [Int.toNat_natCast] at a5; replace a5 := pw_cell_below a0 a5; replace a6 := Kd.C_below a6 a0; replace a7 := Kd.C_below a7 a0; replace a8 := Kd.C_below a8 a0; have hK := k45_mk wr (rd_T45 l0 (kk : Int)) b1 a6 b2 a7 b3 a8; have hcall := HP.out wr (rd_T45 l0 (kk : Int)) _ BW.out hK; clear hK
   have hget : l0[kk] = rd_T45 l0 (kk : Int) := by
    unfold rd_T45; rw [List.getD_eq_getElem?_getD, Int.toNat_natCast, List.getElem?_eq_getElem hlt]
    rfl
   cases hq : p (rd_T45 l0 (kk : Int)) with
   | true =>
    rw [hq] at hcall; have hi := impl_FindPack_idx_hit p l0 kk hlt (by rw [hget]; exact hq); rw [A.out] at hi; have HI := zA hi; have HC := zA hcall; clear hi hq hget hcall
    go_wp2_with (go_at_call 123; refine HC.out.mono ?_; rintro e w' ⟨rfl, hb'⟩)
    go_ret
    exact ⟨by first | rfl | (rw [HI.out]; rfl), hb'⟩
   | false =>
    rw [hq] at hcall; have hi := impl_FindPack_idx_step p l0 kk hlt (by rw [hget]; exact hq); rw [A.out] at hi; have HI := zA hi.symm; have HC := zA hcall; clear hi hq hget hcall
    go_wp2_with (go_at_call 123; refine HC.out.mono ?_; rintro e w' ⟨rfl, hb'⟩)
    go_roundg (l0.length - (kk + 1))
    case measure => omega
    case rel => exact ⟨kk + 1, by omega, by omega, by go_num, ⟨hb'⟩, HI⟩
  have hltz : ¬ (kk : Int) < (l0.length : Int) := by omega
  have hi := impl_FindPack_idx_end p l0 kk (by omega); rw [A.out] at hi; have HI := zA hi; clear hi
  go_wp2
  go_ret
  exact ⟨by first | rfl | (rw [HI.out]; rfl), BW.out⟩
def impl_FindPack.f (l0 : List (S45)) (a1 : ByteArray) : Option (Int) := some (impl_FindPack_idx (fun x => x.f0.toList == a1.toList) l0 0)
set_option maxHeartbeats 2000000 in
set_option maxRecDepth 100000 in
theorem impl_FindPack.calls (A0 : Option Addr) (c0 : Nat) (l0 : List (S45)) (a1 : ByteArray) (r : Int) (w : World) (a0 : Kd.C k45 w A0 l0.length l0) (a2 : l0.length ≤ c0) (h : impl_FindPack.f l0 a1 = some r) :
  Calls Tryz.prog 75 #[.slice A0 l0.length c0, .string a1] w fun e w' => e = .returned (.int .i64 r) ∧ Below w.heap.size w w' := by
 obtain rfl := Option.some.inj h
 have HB := zA (below_alloc (Below.refl w.heap.size w) (.cells #[.string a1] 9))
 have HC := zA (impl_FindPack_index (fun x => x.f0.toList == a1.toList) w.heap.size A0 c0 l0 w (w.alloc (.cells #[.string a1] 9)) HB.out a0 a2 (fun W x cs hW hK => by
  obtain ⟨a3, a4, a5, a6, a7, a8, rfl, a9, b0, b1, b2, b3, b4⟩ := k45_open hK
  refine (impl_FindPack_pred w.heap.size a1 x.f0 a3 a4 x.f1 a5 a6 x.f2 a7 a8 x.f3 W ?_).mono fun e w' hpost => ⟨hpost.1, below_then hW hW.size hpost.2⟩
  exact pw_cell_below hW (by simp)))
 clear a0 a2 h
 go_enter Tryz.func75, Tryz.ntmps75
 go_wp2_with (go_at_call 122; refine HC.out.mono ?_; rintro e w' ⟨rfl, hb'⟩)
 go_ret
 exact ⟨rfl, below_then HB.out HB.out.size hb'⟩
end Go.Proofs.YtpcdhoeoefoeoaaGreatDoor.PGE
