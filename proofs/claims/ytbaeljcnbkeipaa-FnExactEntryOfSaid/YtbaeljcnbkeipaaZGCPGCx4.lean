/- The walks of the functions that these laws reach, and what each comes to: printed by this session's program. -/
import Derived.Test.YtbaeljcnbkeipaaZGCPGCx0
import Derived.Test.YtbaeljcnbkeipaaZGCSays
namespace Go.Proofs.Ytbaeljcnbkeipaa.PGC
open Go.RowKit YtbaeljcnbkeipaaW.PrintWords YtbaeljcnbkeipaaW.PrintLast YtbaeljcnbkeipaaW.PrintMore
attribute [local go_sem high] Mine.str_gtr Mine.str_leq Mine.str_geq
attribute [local go_sem] max2_int min2_int max_two min_two max_three min_three max_four min_four   -- for this text's walks alone
set_option linter.unusedVariables false
set_option maxHeartbeats 8000000
set_option maxRecDepth 100000
set_option linter.unusedSimpArgs false
/-! ### laws_toStringS: function 40 -/
def laws_toStringS.l0 : Nat → List ByteArray → List ByteArray → Int → Option (List ByteArray)
 | 0, _, _, _ => none
 | k + 1, x0, x3, x4 => if x4 < (x0.length : Int) then (if 0 ≤ x4 then (if x4 < (x3.length : Int) then (laws_toStringS.l0 k x0 (x3.set (x4 : Int).toNat (rdOf ByteArray.empty x0 x4)) (wrap64 (x4 + 1))) else (none)) else (none)) else (some x3)
def laws_toStringS.f (k : Nat) (l0 : List ByteArray) : Option (List ByteArray) := if 0 ≤ (l0.length : Int) then (if ((l0.length : Int) : Int).toNat ≤ 17592186044416 then (laws_toStringS.l0 k l0 (List.replicate ((l0.length : Int) : Int).toNat (⟨#[]⟩ : ByteArray)) 0) else (none)) else (none)
theorem laws_toStringS.calls (k : Nat) (A0 : Option Addr) (c0 : Nat) (l0 r : List ByteArray) (w : World) (b2 : Kd.C Kd.string w A0 l0.length l0) (b3 : l0.length ≤ c0) (h : laws_toStringS.f k l0 = some r) :
  Calls Try.prog 40 #[.slice A0 l0.length c0] w fun e w' => ∃ b4 : Value, e = .returned (b4) ∧ Kd.R Kd.string 9 w' w.heap.size (fun _ => True) b4 r ∧ Below w.heap.size w w' := by
 have c6 := zA b2
 have d9 := zA b3
 clear b2 b3
 have HB := zA (Below.refl w.heap.size w)
 unfold laws_toStringS.f at h
 have H := h
 clear h
 replace H := zC0 H
 obtain ⟨c2, H⟩ := H
 have c7 := eq_true c2
 have c8 := decide_eq_true c2
 clear c2
 replace H := zC0 H
 obtain ⟨c3, H⟩ := H
 have c9 := eq_true c3
 have d0 := decide_eq_true c3
 clear c3
 obtain ⟨b5, a4⟩ : ∃ y_ : List ByteArray, y_ = (List.replicate ((l0.length : Int) : Int).toNat (⟨#[]⟩ : ByteArray)) := ⟨_, rfl⟩
 replace H : (laws_toStringS.l0 k l0 b5 0) = some r := zY a4 H
 have b6 := zA a4
 clear a4
 have H' := zA H
 clear H
 go_enter Try.func40, Try.ntmps40
 go_wp2_with (first | ((with_reducible refine gate_dst (N := 7) rfl ?_); refine Kd.R_make Kd.string _ 9 rfl (N := 7) rfl 23 _ _ rfl (l0.length : Int) rfl rfl Try.underlying23 (.string ⟨#[]⟩) 16 info9 rfl (by decide) (by omega) (⟨#[]⟩ : ByteArray) (ok := fun _ => True) (okp := fun _ => True) rfl (fun _ hk => hk) trivial (zD) (Nat.le_trans (Nat.mul_le_mul_right _ (zD : (l0.length : Int).toNat ≤ 17592186044416)) (by omega)) (Below.refl _ _) (Nat.le_refl _) ?_; intro d1 w4 a3 hb hg_ hnew_; clear hg_ hnew_; (first | rw [← b6.out] at a3 | (simp only [Int.reduceToNat] at a3; rw [← b6.out] at a3)); have d2 := zA (Kd.R_lower a3 (below_size (zB))); replace HB := zA (below_step (zB) hb); clear hb a3))
 go_loopg [4] k (fun kq v4 w' => ∃ (a1 : List ByteArray) (a0 : Int), v4 = .int .i64 a0 ∧ Aside0 (laws_toStringS.l0 kq l0 a1 a0 = some r) ∧ Aside0 (kq ≤ k) ∧ Aside0 (Kd.R Kd.string 9 w' w.heap.size (fun _ => True) d1 a1) ∧ Aside0 (Below w.heap.size w w'))
 case atStart => exact ⟨(b5), (0), zS, H', ⟨Nat.le_refl _⟩, ⟨zR d2.out⟩, ⟨zB⟩⟩
 case round =>
  clear H'
  try clear c2
  try clear c7
  try clear c8
  try clear p2
  try clear c3
  try clear c9
  try clear d0
  try clear c4
  obtain ⟨a1, a0, rfl, HA, b7, a2, HB⟩ := hrel
  cases gk with
  | zero => exact absurd HA.out (by simp [laws_toStringS.l0])
  | succ k1 =>
   have H := HA.out; clear HA; simp only [laws_toStringS.l0] at H; replace H := zI0 H
   rcases H with ⟨d3, H⟩ | ⟨d3, H⟩
   ·replace H := zD0 H; obtain ⟨e0, H⟩ := H; replace H := zD0 H; obtain ⟨e1, H⟩ := H; obtain ⟨a5, a6⟩ : ∃ y_ : List ByteArray, y_ = (a1.set (a0 : Int).toNat (rdOf ByteArray.empty l0 a0)) := ⟨_, rfl⟩; replace H : (laws_toStringS.l0 k1 l0 a5 (wrap64 (a0 + 1))) = some r := zY a6 H; have d4 := zA a6; clear a6; have H' := zA H; clear H; have a7 : 0 ≤ (a0 : Int) := zD; have a8 : a0 < (l0.length : Int) := zD; obtain ⟨e2, d5, b8⟩ := Kd.at_string c6.out a0 a7 a8; cases d5; replace b8 := zx HB b8; replace a7 := eq_true a7; replace a8 := eq_true a8; have p9 : 0 ≤ (a0 : Int) := zD; have q9 : (a0 : Int) < ((a1.length : Int) : Int) := zD; obtain ⟨a9, d6, b9, c1, d7, e3, c5⟩ := Kd.R_form a2.out (by omega)
    (first | cases b9 | (injection b9 with ea_ en_ ec_; (first | subst ea_ | (injection ea_ with ea_; subst ea_)); subst ec_; clear en_))
    have d8 := zA c1; have e4 := zA c5; clear c1 d7 c5; obtain ⟨e5, e6⟩ := Kd.R_celln (⟨#[]⟩ : ByteArray) a2.out (a0 : Int) p9 q9; replace p9 := eq_true p9; replace q9 := eq_true q9; have b0 := Kd.R_putg a2.out (a0 : Int) (rdOf ByteArray.empty l0 a0)
    go_wp2_with (first | ((with_reducible refine gate_store (t := 9) (p := 20) rfl ?_); refine store_event (t := 9) (p := 20) (v := ?vo_w11) (w1 := (wr.setCell ⟨a9, (a0 : Int).toNat, none⟩ (.string (rdOf ByteArray.empty l0 a0)))) ?hg ?ho ?hn ?hr ?_; (case ho => rfl); (case hg => rfl); (case hn => rfl); (case hr => first | (go_simp; done) | (go_simp; rfl)); intro b1 hw; have hg : wr.grownBy b1 (some a9) := (by rw [hw]; exact b0.2); have hp_ : Kd.R Kd.string 9 b1 w.heap.size (fun _ => True) (.slice (some ⟨a9, 0, none⟩) a1.length d6) a5 := (by rw [hw, d4.out]; exact b0.1); clear b0; replace a2 := zA (hp_); replace HB := zA ((by rw [hw]; exact below_set (HB.out) d8.out : Below w.heap.size w b1)); clear hg hw hp_))
    go_roundg k1
    case measure => have := b7.out; omega
    case rel => exact ⟨(a5), (wrap64 (a0 + 1)), zS, H', ⟨by have := b7.out; omega⟩, ⟨zR a2.out⟩, ⟨zB⟩⟩
   obtain rfl := zm H
   go_wp2
   go_ret
   exact ⟨_, zE, zR a2.out, zB⟩
/-! ### laws_toVer: function 18 -/
def laws_toVer.f (k : Nat) (a0 a1 a2 : Int) (a3 : List ByteArray) : Option (Int × Int × Int × List ByteArray) := (laws_toStringS.f k a3).bind fun a4 => (some (a0, a1, a2, a4))
theorem laws_toVer.calls (k : Nat) (a2 a4 a5 : Int) (a8 : Option Addr) (a9 : Nat) (a3 : List ByteArray) (r1 r2 r3 : Int) (r4 : List ByteArray) (w : World) (b3 : Kd.C Kd.string w a8 a3.length a3) (b4 : a3.length ≤ a9) (h : laws_toVer.f k a2 a4 a5 a3 = some (r1, r2, r3, r4)) :
  Calls Try.prog 18 #[.agg #[.int .i64 a2, .int .i64 a4, .int .i64 a5, .slice a8 a3.length a9]] w fun e w' => ∃ b5 : Value, e = .returned (.agg #[.int .i64 r1, .int .i64 r2, .int .i64 r3, b5]) ∧ Kd.R Kd.string 9 w' w.heap.size (fun _ => True) b5 r4 ∧ Below w.heap.size w w' := by
 have c9 := Try.underlying38
 have d0 := Try.underlying41
 have c0 := zA b3
 have c1 := zA b4
 clear b3 b4
 have HB := zA (Below.refl w.heap.size w)
 unfold laws_toVer.f at h
 have H := h
 clear h
 replace H := Option.bind_eq_some_iff.mp H
 obtain ⟨b0, b6, H⟩ := H
 try dsimp only at H
 have A2 := zA b6
 clear b6
 simp only [zU] at H
 obtain ⟨rfl, rfl, rfl, rfl⟩ := H
 go_enter Try.func18, Try.ntmps18
 go_wp2_with (first | ((with_reducible refine zd 1 ?_); refine ze 1 38 #[.int .i64 a2, .int .i64 a4, .int .i64 a5, .slice a8 a3.length a9] ?_; intro d1 hg w3 hbox hb; have a0 := zA (hbox); have d2 := zi HB hg; have d3 := zi HB hg; replace HB := zA (below_step (zB) hb); clear hb hbox hg) | ((with_reducible refine zd 2 ?_); refine ze 2 41 #[.int .i64 0, .int .i64 0, .int .i64 0, .slice none 0 0] ?_; intro a6 hg w4 hbox hb; have a1 := zA (hbox); have d4 := zi HB hg; have d5 := zi HB hg; replace HB := zh HB hb; have c2 := zA (zL hg (zK a0.out)); have c3 := zA (zJ hg (zK a0.out)); replace a0 := zb a0 hb; clear hb hbox hg) | ((with_reducible refine zd 3 ?_); refine ze 3 41 #[.int .i64 0, .int .i64 0, .int .i64 0, .slice none 0 0] ?_; intro b7 hg w5 hbox hb; have a7 := zA (hbox); have d6 := zi HB hg; have d7 := zi HB hg; replace HB := zh HB hb; have c4 := zA (zL hg (zK a0.out)); have c5 := zA (zJ hg (zK a0.out)); replace a0 := zb a0 hb; have c6 := zA (zL hg (zK a1.out)); have c7 := zA (zJ hg (zK a1.out)); replace a1 := zb a1 hb; clear hb hbox hg; have d8 := c2.out; have d9 := c3.out; have e0 := c4.out; have e1 := c5.out; obtain ⟨e2, e3, e4, e5, e6, e7, e8, e9⟩ := ze4 a0.out; have f0 := c7.out; have f1 := c6.out; obtain ⟨f2, f3, f4, f5, f6, f7, f8, f9⟩ := ze4 a7.out) | ((with_reducible refine zq 40 ?_); refine zg (some 15) Try.func40 #[.slice a8 a3.length a9] ?_; (with_reducible refine (laws_toStringS.calls k _ _ a3 b0 _ ?s1 ?s2 A2.out).mono ?_); (case s1 => exact Kd.C_below c0.out (zW HB.out)); (case s2 => exact c1.out); rintro e g0 ⟨g1, rfl, b8, hb⟩; refine ⟨_, rfl, ?_⟩; have b9 := zA (Kd.R_lower b8 (below_size (zW HB.out))); replace a0 := zb a0 hb; replace a1 := zb a1 hb; replace a7 := zA (blk_below (g := b7) (o := .cells #[.int .i64 a2, .int .i64 a4, .int .i64 a5, .slice none 0 0] 41 (0, 0)) (by (with_reducible repeat (first | refine blk_drewN ?_ _ | refine blk_drew ?_ | refine blk_alloc ?_ _)); refine blk_put (cs := #[.int .i64 a2, .int .i64 a4, .int .i64 0, .slice none 0 0]) ?_ 2 _ rfl; (with_reducible repeat (first | refine blk_drewN ?_ _ | refine blk_drew ?_ | refine blk_alloc ?_ _)); refine blk_put (cs := #[.int .i64 a2, .int .i64 0, .int .i64 0, .slice none 0 0]) ?_ 1 _ rfl; (with_reducible repeat (first | refine blk_drewN ?_ _ | refine blk_drew ?_ | refine blk_alloc ?_ _)); refine blk_put (cs := #[.int .i64 0, .int .i64 0, .int .i64 0, .slice none 0 0]) ?_ 0 _ rfl; (with_reducible repeat (first | refine blk_drewN ?_ _ | refine blk_drew ?_ | refine blk_alloc ?_ _)); exact a7.out) hb); replace HB := zh HB hb; (try clear hb b8); obtain ⟨b1, b2, c8⟩ := Kd.R_slice b9.out; subst c8; obtain ⟨g2, g3, g4, g5, g6, g7, g8, g9⟩ := ze4 a7.out; obtain ⟨h0, h1, h2, h3, h4, h5, h6, h7⟩ := ze4 a1.out))
 refine bodyPost_ret (results_cell_row rfl _ _ a6 41 #[.int .i64 a2, .int .i64 a4, .int .i64 a5, .slice b1 b0.length b2] (0, 0) _ rfl (zk4 a1.out) Try.underlying41 rfl (by kernel_rfl)) rfl ?_
 exact ⟨_, zE, zR (Kd.R_mono (Kd.R_far (p := ⟨a6, 3, none⟩) (Kd.R_far (p := ⟨a6, 2, none⟩) (Kd.R_far (p := ⟨a6, 1, none⟩) (Kd.R_far (p := ⟨a6, 0, none⟩) (Kd.R_far (p := ⟨b7, 3, none⟩) (Kd.R_types (Kd.R_types b9.out a7.out (by decide)) a1.out (by decide)) (fun _ hk => hk.1.2) (.slice b1 b0.length b2)) (fun _ hk => hk.2) (.int .i64 a2)) (fun _ hk => hk.2) (.int .i64 a4)) (fun _ hk => hk.2) (.int .i64 a5)) (fun _ hk => hk.2) (.slice b1 b0.length b2)) (fun _ hk => trivial)), zW HB.out⟩
/-! ### laws_toNeed: function 86 -/
def laws_toNeed.f (a0 a1 : ByteArray) : Option (ByteArray × ByteArray) := some (a0, a1)
theorem laws_toNeed.calls (a2 a3 r1 r2 : ByteArray) (w : World) (h : laws_toNeed.f a2 a3 = some (r1, r2)) :
  Calls Try.prog 86 #[.agg #[.string a2, .string a3]] w fun e w' => e = .returned (.agg #[.string r1, .string r2]) ∧ Below w.heap.size w w' := by
 have b2 := Try.underlying113
 have b3 := Try.underlying94
 have HB := zA (Below.refl w.heap.size w)
 unfold laws_toNeed.f at h
 have H := h
 clear h
 simp only [zU] at H
 obtain ⟨rfl, rfl⟩ := H
 go_enter Try.func86, Try.ntmps86
 go_wp2_with (first | ((with_reducible refine zd 1 ?_); refine ze 1 113 #[.string a2, .string a3] ?_; intro b4 hg w2 hbox hb; have a0 := zA (hbox); have b5 := zi HB hg; have b6 := zi HB hg; replace HB := zA (below_step (zB) hb); clear hb hbox hg) | ((with_reducible refine zd 2 ?_); refine ze 2 94 #[.string (⟨#[]⟩ : ByteArray), .string (⟨#[]⟩ : ByteArray)] ?_; intro a5 hg w3 hbox hb; have a1 := zA (hbox); have b7 := zi HB hg; have b8 := zi HB hg; replace HB := zh HB hb; have a6 := zA (zL hg (zK a0.out)); have a7 := zA (zJ hg (zK a0.out)); replace a0 := zb a0 hb; clear hb hbox hg) | ((with_reducible refine zd 3 ?_); refine ze 3 94 #[.string (⟨#[]⟩ : ByteArray), .string (⟨#[]⟩ : ByteArray)] ?_; intro b9 hg w4 hbox hb; have a8 := zA (hbox); have c0 := zi HB hg; have c1 := zi HB hg; replace HB := zh HB hb; have a9 := zA (zL hg (zK a0.out)); have b0 := zA (zJ hg (zK a0.out)); replace a0 := zb a0 hb; have a4 := zA (zL hg (zK a1.out)); have b1 := zA (zJ hg (zK a1.out)); replace a1 := zb a1 hb; clear hb hbox hg; have c2 := a6.out; have c3 := a7.out; have c4 := a9.out; have c5 := b0.out; obtain ⟨c6, c7, c8, c9⟩ := ze2 a0.out; have d0 := b1.out; have d1 := a4.out; obtain ⟨d2, d3, d4, d5⟩ := ze2 a8.out; obtain ⟨d6, d7, d8, d9⟩ := ze2 a1.out))
 refine bodyPost_ret (results_cell_row rfl _ _ a5 94 #[.string a2, .string a3] (0, 0) _ rfl (by (with_reducible repeat (first | refine blk_drewN ?_ _ | refine blk_drew ?_ | refine blk_alloc ?_ _)); refine blk_put (cs := #[.string a2, .string (⟨#[]⟩ : ByteArray)]) ?_ 1 _ rfl; (with_reducible repeat (first | refine blk_drewN ?_ _ | refine blk_drew ?_ | refine blk_alloc ?_ _)); refine blk_put (cs := #[.string (⟨#[]⟩ : ByteArray), .string (⟨#[]⟩ : ByteArray)]) ?_ 0 _ rfl; (with_reducible repeat (first | refine blk_drewN ?_ _ | refine blk_drew ?_ | refine blk_alloc ?_ _)); refine blk_far ?_ a4.out _; (with_reducible repeat (first | refine blk_drewN ?_ _ | refine blk_drew ?_ | refine blk_alloc ?_ _)); refine blk_far ?_ a4.out _; (with_reducible repeat (first | refine blk_drewN ?_ _ | refine blk_drew ?_ | refine blk_alloc ?_ _)); exact a1.out) Try.underlying94 rfl (by kernel_rfl)) rfl ?_
 exact ⟨zE, zW HB.out⟩
/-! ### laws_toNeedS: function 65 -/
def laws_toNeedS.l0 : Nat → List (S113) → List (S94) → Int → Option ((List (S94)))
 | 0, _, _, _ => none
 | k + 1, x0, x3, x4 => if x4 < (x0.length : Int) then (if 0 ≤ x4 then ((laws_toNeed.f ((rd_T113 x0 x4).f0) ((rd_T113 x0 x4).f1)).bind fun a0 => (if x4 < (x3.length : Int) then (laws_toNeedS.l0 k x0 (x3.set (x4 : Int).toNat (⟨a0.1, a0.2⟩ : S94)) (wrap64 (x4 + 1))) else (none))) else (none)) else (some x3)
def laws_toNeedS.f (k : Nat) (l0 : List (S113)) : Option ((List (S94))) := if 0 ≤ (l0.length : Int) then (if ((l0.length : Int) : Int).toNat ≤ 8796093022208 then (laws_toNeedS.l0 k l0 (List.replicate ((l0.length : Int) : Int).toNat z94) 0) else (none)) else (none)
theorem laws_toNeedS.calls (k : Nat) (A0 : Option Addr) (c0 : Nat) (l0 : List (S113)) (r : List (S94)) (w : World) (c4 : Kd.C k113 w A0 l0.length l0) (c5 : l0.length ≤ c0) (h : laws_toNeedS.f k l0 = some r) :
  Calls Try.prog 65 #[.slice A0 l0.length c0] w fun e w' => ∃ c6 : Value, e = .returned (c6) ∧ Kd.R k94 94 w' w.heap.size (fun _ => True) c6 r ∧ Below w.heap.size w w' := by
 have g0 := Try.underlying113
 have g1 := Try.underlying94
 have e2 := zA c4
 have g2 := zA c5
 clear c4 c5
 have HB := zA (Below.refl w.heap.size w)
 unfold laws_toNeedS.f at h
 have H := h
 clear h
 replace H := zC0 H
 obtain ⟨c2, H⟩ := H
 have e3 := eq_true c2
 have e4 := decide_eq_true c2
 clear c2
 replace H := zC0 H
 obtain ⟨c3, H⟩ := H
 have e5 := eq_true c3
 have e6 := decide_eq_true c3
 clear c3
 obtain ⟨c7, a9⟩ : ∃ y_ : List (S94), y_ = (List.replicate ((l0.length : Int) : Int).toNat z94) := ⟨_, rfl⟩
 replace H : (laws_toNeedS.l0 k l0 c7 0) = some r := zY a9 H
 have c8 := zA a9
 clear a9
 have H' := zA H
 clear H
 go_enter Try.func65, Try.ntmps65
 go_wp2_with (first | ((with_reducible refine gate_dst (N := 7) rfl ?_); refine Kd.R_make k94 _ 94 rfl (N := 7) rfl 42 _ _ rfl (l0.length : Int) rfl rfl Try.underlying42 (.agg #[(.string ⟨#[]⟩), (.string ⟨#[]⟩)]) 32 info94 rfl (by decide) (by omega) z94 (ok := fun _ => True) (okp := fun _ => True) (k94_mkM _ _ _ z94 ) (fun _ hk => hk) trivial (zD) (Nat.le_trans (Nat.mul_le_mul_right _ (zD : (l0.length : Int).toNat ≤ 8796093022208)) (by omega)) (Below.refl _ _) (Nat.le_refl _) ?_; intro e7 w4 a7 hb hg_ hnew_; clear hg_ hnew_; (first | rw [← c8.out] at a7 | (simp only [Int.reduceToNat] at a7; rw [← c8.out] at a7)); have e8 := zA (Kd.R_lower a7 (below_size (zB))); replace HB := zA (below_step (zB) hb); clear hb a7))
 go_loopg [4] k (fun kq v4 w' => ∃ (a1 : List (S94)) (a0 : Int), v4 = .int .i64 a0 ∧ Aside0 (laws_toNeedS.l0 kq l0 a1 a0 = some r) ∧ Aside0 (kq ≤ k) ∧ Aside0 (Kd.R k94 94 w' w.heap.size (fun _ => True) e7 a1) ∧ Aside0 (Below w.heap.size w w'))
 case atStart => exact ⟨(c7), (0), zS, H', ⟨Nat.le_refl _⟩, ⟨zR e8.out⟩, ⟨zB⟩⟩
 case round =>
  clear H'
  try clear c2
  try clear e3
  try clear e4
  try clear p2
  try clear c3
  try clear e5
  try clear e6
  obtain ⟨a1, a0, rfl, HA, c9, a2, HB⟩ := hrel
  cases gk with
  | zero => exact absurd HA.out (by simp [laws_toNeedS.l0])
  | succ k1 =>
   have H := HA.out; clear HA; simp only [laws_toNeedS.l0] at H; replace H := zI0 H
   rcases H with ⟨e9, H⟩ | ⟨e9, H⟩
   ·replace H := zD0 H; obtain ⟨g3, H⟩ := H; replace H := Option.bind_eq_some_iff.mp H; obtain ⟨⟨a5, a6⟩, d0, H⟩ := H
    try dsimp only at H
    have A8 := zA d0; clear d0; replace H := zD0 H; obtain ⟨g4, H⟩ := H; obtain ⟨b0, b1⟩ : ∃ y_ : List (S94), y_ = (a1.set (a0 : Int).toNat (⟨a5, a6⟩ : S94)) := ⟨_, rfl⟩; replace H : (laws_toNeedS.l0 k1 l0 b0 (wrap64 (a0 + 1))) = some r := zY b1 H; have f2 := zA b1; clear b1; have H' := zA H; clear H; have b2 : 0 ≤ (a0 : Int) := zD; have b3 : a0 < (l0.length : Int) := zD; obtain ⟨g5, f3, d1, d2⟩ := at_T113 e2.out a0 b2 b3; cases f3; replace d1 := zx HB d1; replace d2 := zx HB d2; replace b2 := eq_true b2; replace b3 := eq_true b3
    go_wp2_with (first | ((with_reducible refine zq 86 ?_); refine zg (some 20) Try.func86 #[.agg #[.string ((rd_T113 l0 a0).f0), .string ((rd_T113 l0 a0).f1)]] ?_; (with_reducible refine (laws_toNeed.calls ((rd_T113 l0 a0).f0) ((rd_T113 l0 a0).f1) a5 a6 _ A8.out).mono ?_); rintro e a4 ⟨rfl, hb⟩; refine ⟨_, rfl, ?_⟩; replace a2 := zr a2 hb; replace HB := zA (below_step (zB) hb); (try clear hb); have b4 : 0 ≤ (a0 : Int) := zD; have b5 : (a0 : Int) < ((a1.length : Int) : Int) := zD; obtain ⟨a3, d3, d4, d5, f4, g6, d6⟩ := Kd.R_form a2.out (by omega); (first | cases d4 | (injection d4 with ea_ en_ ec_; (first | subst ea_ | (injection ea_ with ea_; subst ea_)); subst ec_; clear en_)); have d7 := zA d5; have g7 := zA d6; clear d5 f4 d6; obtain ⟨g8, f5, d8, b6, b7⟩ := Kd.R_elem a2.out z94 (a0 : Int) b4 b5; obtain rfl := k94_openM d8; have g9 : a4.cell? ⟨a3, (a0 : Int).toNat * 2, none⟩ = some (.string ((rd_T94 a1 a0).f0)) := b6 0 _ rfl; have h0 : a4.cell? ⟨a3, (a0 : Int).toNat * 2 + 1, none⟩ = some (.string ((rd_T94 a1 a0).f1)) := b6 1 _ rfl; have h1 : a4.frozen? ⟨a3, (a0 : Int).toNat * 2, none⟩ = false := b7 0; have h2 : a4.frozen? ⟨a3, (a0 : Int).toNat * 2 + 1, none⟩ = false := b7 1; clear f5 b6 b7; (try clear d8); replace b4 := eq_true b4; replace b5 := eq_true b5; have d9 := zA (show Kd.R k94 94 a4 w.heap.size (fun _ => True) (.slice (some ⟨a3, 0, none⟩) a1.length d3) a1 from (zR a2.out)); obtain ⟨h3, e0, e1, a8, b8⟩ := Kd.R_elem d9.out z94 (a0 : Int) (zD) (by have h_ : (a0 : Int) < ((a1.length : Int) : Int) := zD; first | exact h_ | (have e_ := (Kd.R_reads' a2.out).1; omega) | simpa using h_); obtain rfl := k94_openM e1; have b9 := Kd.R_seg d9.out (a0 : Int) (zD) (by have h_ : (a0 : Int) < ((a1.length : Int) : Int) := zD; first | exact h_ | (have e_ := (Kd.R_reads' a2.out).1; omega) | simpa using h_) (seg := [.string a5, .string a6]) (j := 0) e0 a8 (show 2 ≤ 2 from by decide) (x' := (⟨a5, a6⟩ : S94)) (k94_mkM _ _ _ (⟨a5, a6⟩ : S94) ) (fun _ hk => hk); have f6 := a8 0 _ rfl; (try simp only [show (k94).sz = 2 from rfl, Nat.mul_one, Nat.add_zero] at f6); have f7 := b8 0; (try simp only [show (k94).sz = 2 from rfl, Nat.mul_one, Nat.add_zero] at f7); have f8 := a8 1 _ rfl; (try simp only [show (k94).sz = 2 from rfl, Nat.mul_one, Nat.add_zero] at f8); have f9 := b8 1; (try simp only [show (k94).sz = 2 from rfl, Nat.mul_one, Nat.add_zero] at f9); clear e0 a8 b8; (try clear e1)) | ((with_reducible refine gate_store (t := 94) (p := 21) rfl ?_); refine store_event (t := 94) (p := 21) (v := ?vo_w13) (w1 := ((a4.setCell ⟨a3, (a0 : Int).toNat * 2, none⟩ (.string a5)).setCell ⟨a3, (a0 : Int).toNat * 2 + 1, none⟩ (.string a6))) ?hg ?ho ?hn ?hr ?_; (case ho => rfl); (case hg => rfl); (case hn => rfl); (case hr => first | (go_simp; done) | (go_simp; rfl)); intro c1 hw; have hg : a4.grownBy c1 (some a3) := (by rw [hw]; exact b9.2); have hp_ : Kd.R k94 94 c1 w.heap.size (fun _ => True) (.slice (some ⟨a3, 0, none⟩) a1.length d3) b0 := (by rw [hw, f2.out]; exact b9.1); clear b9; replace a2 := zA (hp_); replace HB := zA ((by rw [hw]; exact below_set (below_set (HB.out) d7.out) d7.out : Below w.heap.size w c1)); clear hg hw hp_))
    go_roundg k1
    case measure => have := c9.out; omega
    case rel => exact ⟨(b0), (wrap64 (a0 + 1)), zS, H', ⟨by have := c9.out; omega⟩, ⟨zR a2.out⟩, ⟨zB⟩⟩
   obtain rfl := zm H
   go_wp2
   go_ret
   exact ⟨_, zE, zR a2.out, zB⟩
/-! ### laws_toEntry: function 53 -/
def laws_toEntry.f (k : Nat) (a1 : ByteArray) (a2 a3 a4 : Int) (a5 : List ByteArray) (a6 : List (S113)) : Option (ByteArray × Int × Int × Int × List ByteArray × (List (S94))) := (laws_toVer.f k a2 a3 a4 a5).bind fun a0 => ((laws_toNeedS.f k a6).bind fun a7 => (some (a1, a0.1, a0.2.1, a0.2.2.1, a0.2.2.2, a7)))
theorem laws_toEntry.calls (k : Nat) (a0 : ByteArray) (b5 b6 b7 : Int) (c1 : Option Addr) (c2 : Nat) (a8 : List ByteArray) (c3 : Option Addr) (c4 : Nat) (a9 : List (S113)) (r1 : ByteArray) (r2 r3 r4 : Int) (r5 : List ByteArray) (r6 : List (S94)) (w : World) (c6 : Kd.C Kd.string w c1 a8.length a8) (c7 : a8.length ≤ c2) (c8 : Kd.C k113 w c3 a9.length a9) (c9 : a9.length ≤ c4) (h : laws_toEntry.f k a0 b5 b6 b7 a8 a9 = some (r1, r2, r3, r4, r5, r6)) :
  Calls Try.prog 53 #[.agg #[.string a0, .int .i64 b5, .int .i64 b6, .int .i64 b7, .slice c1 a8.length c2, .slice c3 a9.length c4]] w fun e w' => ∃ d0 d1 : Value, e = .returned (.agg #[.string r1, .int .i64 r2, .int .i64 r3, .int .i64 r4, d0, d1]) ∧ Kd.R Kd.string 9 w' w.heap.size (fun _ => True) d0 r5 ∧ Kd.R k94 94 w' w.heap.size (fun _ => True) d1 r6 ∧ Below w.heap.size w w' := by
 have e7 := Try.underlying84
 have e8 := Try.underlying44
 have e9 := Try.underlying38
 have f0 := Try.underlying41
 have d6 := zA c6
 have d7 := zA c7
 clear c6 c7
 have d8 := zA c8
 have d9 := zA c9
 clear c8 c9
 have HB := zA (Below.refl w.heap.size w)
 unfold laws_toEntry.f at h
 have H := h
 clear h
 replace H := Option.bind_eq_some_iff.mp H
 obtain ⟨⟨a2, a5, a7, b1⟩, d2, H⟩ := H
 try dsimp only at H
 have A2 := zA d2
 clear d2
 replace H := Option.bind_eq_some_iff.mp H
 obtain ⟨b2, d3, H⟩ := H
 try dsimp only at H
 have A3 := zA d3
 clear d3
 simp only [zU] at H
 obtain ⟨rfl, rfl, rfl, rfl, rfl, rfl⟩ := H
 go_enter Try.func53, Try.ntmps53
 go_wp2_with (first | ((with_reducible refine zd 1 ?_); refine ze 1 84 #[.string a0, .int .i64 b5, .int .i64 b6, .int .i64 b7, .slice c1 a8.length c2, .slice c3 a9.length c4] ?_; intro f1 hg w4 hbox hb; have a1 := zA (hbox); have f2 := zi HB hg; have f3 := zi HB hg; replace HB := zA (below_step (zB) hb); clear hb hbox hg) | ((with_reducible refine zd 2 ?_); refine ze 2 44 #[.string (⟨#[]⟩ : ByteArray), .int .i64 0, .int .i64 0, .int .i64 0, .slice none 0 0, .slice none 0 0] ?_; intro a3 hg w5 hbox hb; have a4 := zA (hbox); have f4 := zi HB hg; have f5 := zi HB hg; replace HB := zh HB hb; have e0 := zA (zL hg (zK a1.out)); have e1 := zA (zJ hg (zK a1.out)); replace a1 := zb a1 hb; clear hb hbox hg) | ((with_reducible refine zd 3 ?_); refine ze 3 44 #[.string (⟨#[]⟩ : ByteArray), .int .i64 0, .int .i64 0, .int .i64 0, .slice none 0 0, .slice none 0 0] ?_; intro b0 hg w6 hbox hb; have a6 := zA (hbox); have f6 := zi HB hg; have f7 := zi HB hg; replace HB := zh HB hb; have e2 := zA (zL hg (zK a1.out)); have e3 := zA (zJ hg (zK a1.out)); replace a1 := zb a1 hb; have d4 := zA (zL hg (zK a4.out)); have e4 := zA (zJ hg (zK a4.out)); replace a4 := zb a4 hb; clear hb hbox hg; have f8 := e0.out; have f9 := e1.out; have g0 := e2.out; have g1 := e3.out; obtain ⟨g2, g3, g4, g5, g6, g7, g8, g9, h0, h1, h2, h3⟩ := ze6 a1.out; have h4 := e4.out; have h5 := d4.out; obtain ⟨h6, h7, h8, h9, i0, i1, i2, i3, i4, i5, i6, i7⟩ := ze6 a6.out) | ((with_reducible refine zq 18 ?_); refine zg (some 9) Try.func18 #[.agg #[.int .i64 b5, .int .i64 b6, .int .i64 b7, .slice c1 a8.length c2]] ?_; (with_reducible refine (laws_toVer.calls k b5 b6 b7 _ _ a8 a2 a5 a7 b1 _ ?s1 ?s2 A2.out).mono ?_); (case s1 => exact Kd.C_below d6.out (zW HB.out)); (case s2 => exact d7.out); rintro e i8 ⟨i9, rfl, b8, hb⟩; refine ⟨_, rfl, ?_⟩; have c5 := zA (Kd.R_lower b8 (below_size (zW HB.out))); replace a1 := zb a1 hb; replace a4 := zb a4 hb; replace a6 := zA (blk_below (g := b0) (o := .cells #[.string a0, .int .i64 0, .int .i64 0, .int .i64 0, .slice none 0 0, .slice none 0 0] 44 (0, 0)) (by (with_reducible repeat (first | refine blk_drewN ?_ _ | refine blk_drew ?_ | refine blk_alloc ?_ _)); refine blk_put (cs := #[.string (⟨#[]⟩ : ByteArray), .int .i64 0, .int .i64 0, .int .i64 0, .slice none 0 0, .slice none 0 0]) ?_ 0 _ rfl; (with_reducible repeat (first | refine blk_drewN ?_ _ | refine blk_drew ?_ | refine blk_alloc ?_ _)); exact a6.out) hb); replace HB := zh HB hb; (try clear hb b8); obtain ⟨j0, j1, j2, j3, j4, j5, j6, j7, j8, j9, k0, k1⟩ := ze6 a6.out; obtain ⟨b3, b4, e5⟩ := Kd.R_slice c5.out; subst e5; obtain ⟨k2, k3, k4, k5, k6, k7, k8, k9, l0, l1, l2, l3⟩ := ze6 a1.out) | ((with_reducible refine zq 65 ?_); refine zg (some 13) Try.func65 #[.slice c3 a9.length c4] ?_; (with_reducible refine (laws_toNeedS.calls k _ _ a9 b2 _ ?s1 ?s2 A3.out).mono ?_); (case s1 => exact Kd.C_below d8.out (zW HB.out)); (case s2 => exact d9.out); rintro e l4 ⟨l5, rfl, b8, hb⟩; refine ⟨_, rfl, ?_⟩; replace c5 := zA (Kd.R_below (zR (Kd.R_mono (Kd.R_far (p := ⟨b0, 4, none⟩) (Kd.R_far (p := ⟨b0, 3, none⟩) (Kd.R_far (p := ⟨b0, 2, none⟩) (Kd.R_far (p := ⟨b0, 1, none⟩) (Kd.R_types c5.out a6.out (by decide)) (fun _ hk => hk.2) (.int .i64 a2)) (fun _ hk => hk.2) (.int .i64 a5)) (fun _ hk => hk.2) (.int .i64 a7)) (fun _ hk => hk.2) (.slice b3 b1.length b4)) (fun _ h_ => h_.1))) hb); have d5 := zA (Kd.R_lower b8 (below_size (zW HB.out))); replace a1 := zb a1 hb; replace a4 := zb a4 hb; replace a6 := zA (blk_below (g := b0) (o := .cells #[.string a0, .int .i64 a2, .int .i64 a5, .int .i64 a7, .slice b3 b1.length b4, .slice none 0 0] 44 (0, 0)) (by (with_reducible repeat (first | refine blk_drewN ?_ _ | refine blk_drew ?_ | refine blk_alloc ?_ _)); refine blk_put (cs := #[.string a0, .int .i64 a2, .int .i64 a5, .int .i64 a7, .slice none 0 0, .slice none 0 0]) ?_ 4 _ rfl; (with_reducible repeat (first | refine blk_drewN ?_ _ | refine blk_drew ?_ | refine blk_alloc ?_ _)); refine blk_put (cs := #[.string a0, .int .i64 a2, .int .i64 a5, .int .i64 0, .slice none 0 0, .slice none 0 0]) ?_ 3 _ rfl; (with_reducible repeat (first | refine blk_drewN ?_ _ | refine blk_drew ?_ | refine blk_alloc ?_ _)); refine blk_put (cs := #[.string a0, .int .i64 a2, .int .i64 0, .int .i64 0, .slice none 0 0, .slice none 0 0]) ?_ 2 _ rfl; (with_reducible repeat (first | refine blk_drewN ?_ _ | refine blk_drew ?_ | refine blk_alloc ?_ _)); refine blk_put (cs := #[.string a0, .int .i64 0, .int .i64 0, .int .i64 0, .slice none 0 0, .slice none 0 0]) ?_ 1 _ rfl; (with_reducible repeat (first | refine blk_drewN ?_ _ | refine blk_drew ?_ | refine blk_alloc ?_ _)); exact a6.out) hb); replace HB := zh HB hb; (try clear hb b8); obtain ⟨b9, c0, e6⟩ := Kd.R_slice d5.out; subst e6; obtain ⟨l6, l7, l8, l9, m0, m1, m2, m3, m4, m5, m6, m7⟩ := ze6 a6.out; obtain ⟨m8, m9, n0, n1, n2, n3, n4, n5, n6, n7, n8, n9⟩ := ze6 a4.out))
 refine bodyPost_ret (results_cell_row rfl _ _ a3 44 #[.string a0, .int .i64 a2, .int .i64 a5, .int .i64 a7, .slice b3 b1.length b4, .slice b9 b2.length c0] (0, 0) _ rfl (by (with_reducible repeat (first | refine blk_drewN ?_ _ | refine blk_drew ?_ | refine blk_alloc ?_ _)); refine blk_put (cs := #[.string a0, .int .i64 a2, .int .i64 a5, .int .i64 a7, .slice b3 b1.length b4, .slice none 0 0]) ?_ 5 _ rfl; (with_reducible repeat (first | refine blk_drewN ?_ _ | refine blk_drew ?_ | refine blk_alloc ?_ _)); refine blk_put (cs := #[.string a0, .int .i64 a2, .int .i64 a5, .int .i64 a7, .slice none 0 0, .slice none 0 0]) ?_ 4 _ rfl; (with_reducible repeat (first | refine blk_drewN ?_ _ | refine blk_drew ?_ | refine blk_alloc ?_ _)); refine blk_put (cs := #[.string a0, .int .i64 a2, .int .i64 a5, .int .i64 0, .slice none 0 0, .slice none 0 0]) ?_ 3 _ rfl; (with_reducible repeat (first | refine blk_drewN ?_ _ | refine blk_drew ?_ | refine blk_alloc ?_ _)); refine blk_put (cs := #[.string a0, .int .i64 a2, .int .i64 0, .int .i64 0, .slice none 0 0, .slice none 0 0]) ?_ 2 _ rfl; (with_reducible repeat (first | refine blk_drewN ?_ _ | refine blk_drew ?_ | refine blk_alloc ?_ _)); refine blk_put (cs := #[.string a0, .int .i64 0, .int .i64 0, .int .i64 0, .slice none 0 0, .slice none 0 0]) ?_ 1 _ rfl; (with_reducible repeat (first | refine blk_drewN ?_ _ | refine blk_drew ?_ | refine blk_alloc ?_ _)); refine blk_put (cs := #[.string (⟨#[]⟩ : ByteArray), .int .i64 0, .int .i64 0, .int .i64 0, .slice none 0 0, .slice none 0 0]) ?_ 0 _ rfl; (with_reducible repeat (first | refine blk_drewN ?_ _ | refine blk_drew ?_ | refine blk_alloc ?_ _)); refine blk_far ?_ d4.out _; (with_reducible repeat (first | refine blk_drewN ?_ _ | refine blk_drew ?_ | refine blk_alloc ?_ _)); exact a4.out) Try.underlying44 rfl (by kernel_rfl)) rfl ?_
 exact ⟨_, _, zE, zR (Kd.R_mono (Kd.R_far (p := ⟨a3, 5, none⟩) (Kd.R_far (p := ⟨a3, 4, none⟩) (Kd.R_far (p := ⟨a3, 3, none⟩) (Kd.R_far (p := ⟨a3, 2, none⟩) (Kd.R_far (p := ⟨a3, 1, none⟩) (Kd.R_far (p := ⟨a3, 0, none⟩) (Kd.R_far (p := ⟨b0, 5, none⟩) (Kd.R_types (Kd.R_types c5.out a6.out (by decide)) a4.out (by decide)) (fun _ hk => hk.1.2) (.slice b9 b2.length c0)) (fun _ hk => hk.2) (.string a0)) (fun _ hk => hk.2) (.int .i64 a2)) (fun _ hk => hk.2) (.int .i64 a5)) (fun _ hk => hk.2) (.int .i64 a7)) (fun _ hk => hk.2) (.slice b3 b1.length b4)) (fun _ hk => hk.2) (.slice b9 b2.length c0)) (fun _ hk => trivial)), zR (Kd.R_mono (Kd.R_far (p := ⟨a3, 5, none⟩) (Kd.R_far (p := ⟨a3, 4, none⟩) (Kd.R_far (p := ⟨a3, 3, none⟩) (Kd.R_far (p := ⟨a3, 2, none⟩) (Kd.R_far (p := ⟨a3, 1, none⟩) (Kd.R_far (p := ⟨a3, 0, none⟩) (Kd.R_far (p := ⟨b0, 5, none⟩) (Kd.R_types (Kd.R_types d5.out a6.out (by decide)) a4.out (by decide)) (fun _ hk => hk.1.2) (.slice b9 b2.length c0)) (fun _ hk => hk.2) (.string a0)) (fun _ hk => hk.2) (.int .i64 a2)) (fun _ hk => hk.2) (.int .i64 a5)) (fun _ hk => hk.2) (.int .i64 a7)) (fun _ hk => hk.2) (.slice b3 b1.length b4)) (fun _ hk => hk.2) (.slice b9 b2.length c0)) (fun _ hk => trivial)), zW HB.out⟩
/-! ### laws_toEntryS: function 17 -/
def laws_toEntryS.l0 : Nat → List (S84) → List (S44) → Int → Option ((List (S44)))
 | 0, _, _, _ => none
 | k + 1, x0, x3, x4 => if x4 < (x0.length : Int) then (if 0 ≤ x4 then ((laws_toEntry.f k ((rd_T84 x0 x4).f0) ((rd_T84 x0 x4).f1.f0) ((rd_T84 x0 x4).f1.f1) ((rd_T84 x0 x4).f1.f2) ((rd_T84 x0 x4).f1.f3) ((rd_T84 x0 x4).f2)).bind fun a0 => (if x4 < (x3.length : Int) then (laws_toEntryS.l0 k x0 (x3.set (x4 : Int).toNat (⟨a0.1, (⟨a0.2.1, a0.2.2.1, a0.2.2.2.1, a0.2.2.2.2.1⟩ : S41), a0.2.2.2.2.2⟩ : S44)) (wrap64 (x4 + 1))) else (none))) else (none)) else (some x3)
def laws_toEntryS.f (k : Nat) (l0 : List (S84)) : Option ((List (S44))) := if 0 ≤ (l0.length : Int) then (if ((l0.length : Int) : Int).toNat ≤ 3198579280802 then (laws_toEntryS.l0 k l0 (List.replicate ((l0.length : Int) : Int).toNat z44) 0) else (none)) else (none)
theorem laws_toEntryS.calls (k : Nat) (A0 : Option Addr) (c0 : Nat) (l0 : List (S84)) (r : List (S44)) (w : World) (d6 : Kd.C k84 w A0 l0.length l0) (d7 : l0.length ≤ c0) (h : laws_toEntryS.f k l0 = some r) :
  Calls Try.prog 17 #[.slice A0 l0.length c0] w fun e w' => ∃ d8 : Value, e = .returned (d8) ∧ Kd.S k44 44 w' w.heap.size (fun _ => True) d8 r ∧ Below w.heap.size w w' := by
 have k2 := Try.underlying84
 have k3 := Try.underlying44
 have g4 := zA d6
 have k4 := zA d7
 clear d6 d7
 have HB := zA (Below.refl w.heap.size w)
 unfold laws_toEntryS.f at h
 have H := h
 clear h
 replace H := zC0 H
 obtain ⟨c2, H⟩ := H
 have g5 := eq_true c2
 have g6 := decide_eq_true c2
 clear c2
 replace H := zC0 H
 obtain ⟨c3, H⟩ := H
 have g7 := eq_true c3
 have g8 := decide_eq_true c3
 clear c3
 obtain ⟨d9, c5⟩ : ∃ y_ : List (S44), y_ = (List.replicate ((l0.length : Int) : Int).toNat z44) := ⟨_, rfl⟩
 replace H : (laws_toEntryS.l0 k l0 d9 0) = some r := zY c5 H
 have e0 := zA c5
 clear c5
 have H' := zA H
 clear H
 go_enter Try.func17, Try.ntmps17
 go_wp2_with (first | ((with_reducible refine gate_dst (N := 7) rfl ?_); refine Kd.S_make k44 _ 44 rfl (N := 7) rfl 47 _ _ rfl (l0.length : Int) rfl rfl Try.underlying47 (.agg #[(.string ⟨#[]⟩), (.int .i64 0), (.int .i64 0), (.int .i64 0), (.slice none 0 0), (.slice none 0 0)]) 88 info44 rfl (by decide) (by omega) z44 (ok := fun _ => True) (okp := fun _ => True) (k44_mkM _ _ _ z44 (Kd.R_nil _ _ _ _ _) (Kd.R_nil _ _ _ _ _)) (fun _ hk => hk) trivial (zD) (Nat.le_trans (Nat.mul_le_mul_right _ (zD : (l0.length : Int).toNat ≤ 3198579280802)) (by omega)) (Below.refl _ _) (Nat.le_refl _) ?_; intro g9 w4 b4 hb hg_ hnew_; clear hg_ hnew_; (first | rw [← e0.out] at b4 | (simp only [Int.reduceToNat] at b4; rw [← e0.out] at b4)); have h0 := zA (Kd.S_lower b4 (below_size (zB))); replace HB := zA (below_step (zB) hb); clear hb b4))
 go_loopg [4] k (fun kq v4 w' => ∃ (a4 : List (S44)) (a0 : Int), v4 = .int .i64 a0 ∧ Aside0 (laws_toEntryS.l0 kq l0 a4 a0 = some r) ∧ Aside0 (kq ≤ k) ∧ Aside0 (Kd.S k44 44 w' w.heap.size (fun _ => True) g9 a4) ∧ Aside0 (Below w.heap.size w w'))
 case atStart => exact ⟨(d9), (0), zS, H', ⟨Nat.le_refl _⟩, ⟨by (with_reducible repeat (first | apply Kd.S_alloc | apply Kd.S_drewN | apply Kd.S_drew)); exact h0.out⟩, ⟨zB⟩⟩
 case round =>
  clear H'
  try clear c1
  try clear c2
  try clear g5
  try clear g6
  try clear p2
  try clear c3
  try clear g7
  try clear g8
  obtain ⟨a4, a0, rfl, HA, e1, a2, HB⟩ := hrel
  cases gk with
  | zero => exact absurd HA.out (by simp [laws_toEntryS.l0])
  | succ k1 =>
   have H := HA.out; clear HA; simp only [laws_toEntryS.l0] at H; replace H := zI0 H
   rcases H with ⟨h1, H⟩ | ⟨h1, H⟩
   ·replace H := zD0 H; obtain ⟨k5, H⟩ := H; replace H := Option.bind_eq_some_iff.mp H; obtain ⟨⟨a9, b0, b1, b2, b5, b6⟩, e2, H⟩ := H
    try dsimp only at H
    have A8 := zA e2; clear e2; replace H := zD0 H; obtain ⟨k6, H⟩ := H; obtain ⟨c6, c7⟩ : ∃ y_ : List (S44), y_ = (a4.set (a0 : Int).toNat (⟨a9, (⟨b0, b1, b2, b5⟩ : S41), b6⟩ : S44)) := ⟨_, rfl⟩; replace H : (laws_toEntryS.l0 k1 l0 c6 (wrap64 (a0 + 1))) = some r := zY c7 H; have h2 := zA c7; clear c7; have H' := zA H; clear H; have c8 : 0 ≤ (a0 : Int) := zD; have c9 : a0 < (l0.length : Int) := zD; obtain ⟨k7, h3, h4, h5, h6, h7, e3, e4, e5, e6, e7, e8, e9, f4, f5, f6⟩ := at_T84 g4.out a0 c8 c9; cases h7; replace e3 := zx HB e3; replace e4 := zx HB e4; replace e5 := zx HB e5; replace e6 := zx HB e6; replace e7 := zx HB e7; replace e8 := zx HB e8; have h8 := zA f4; have h9 := zA e9; clear f4 e9; have i0 := zA f6; have i1 := zA f5; clear f6 f5; replace c8 := eq_true c8; replace c9 := eq_true c9
    go_wp2_with (first | ((with_reducible refine zq 53 ?_); refine zg (some 20) Try.func53 #[.agg #[.string ((rd_T84 l0 a0).f0), .int .i64 ((rd_T84 l0 a0).f1.f0), .int .i64 ((rd_T84 l0 a0).f1.f1), .int .i64 ((rd_T84 l0 a0).f1.f2), .slice h3 ((rd_T84 l0 a0).f1.f3).length h4, .slice h5 ((rd_T84 l0 a0).f2).length h6]] ?_; (with_reducible refine (laws_toEntry.calls k1 ((rd_T84 l0 a0).f0) ((rd_T84 l0 a0).f1.f0) ((rd_T84 l0 a0).f1.f1) ((rd_T84 l0 a0).f1.f2) _ _ ((rd_T84 l0 a0).f1.f3) _ _ ((rd_T84 l0 a0).f2) a9 b0 b1 b2 b5 b6 _ ?s1 ?s2 ?s3 ?s4 A8.out).mono ?_); (case s1 => exact zC (Kd.C_below h8.out HB.out)); (case s2 => exact h9.out); (case s3 => exact zC (Kd.C_below i0.out HB.out)); (case s4 => exact i1.out); rintro e a3 ⟨b7, b8, rfl, d0, d1, hb⟩; refine ⟨_, rfl, ?_⟩; replace a2 := zA (Kd.S_mono (Kd.S_told (Kd.S_told (Kd.S_old (by (with_reducible repeat (first | apply Kd.S_alloc | apply Kd.S_drewN | apply Kd.S_drew)); exact a2.out) hb) (Kd.R_base d0)) (Kd.R_base d1)) (fun _ h_ => h_.1)); have b9 := zA (Kd.R_lower d0 (below_size (zB))); have c4 := zA (Kd.R_lower d1 (below_size (zB))); replace HB := zA (below_step (zB) hb); (try clear hb d0 d1); have d2 : 0 ≤ (a0 : Int) := zD; have d3 : (a0 : Int) < ((a4.length : Int) : Int) := zD; obtain ⟨a1, f7, f8, f9, i2, k8, g0⟩ := Kd.S_form a2.out (by omega); (first | cases f8 | (injection f8 with ea_ en_ ec_; (first | subst ea_ | (injection ea_ with ea_; subst ea_)); subst ec_; clear en_)); have b3 := zA f9; have k9 := zA g0; clear f9 i2 g0; obtain ⟨_, l1, i3, g1, a5, a6, _, _⟩ := Kd.S_elem a2.out z44 (a0 : Int) d2 d3; obtain ⟨i4, i5, rfl, l2, l3⟩ := k44_openM g1; have l4 : a3.cell? ⟨a1, (a0 : Int).toNat * 6, none⟩ = some (.string ((rd_T44 a4 a0).f0)) := a5 0 _ rfl; have l5 : a3.cell? ⟨a1, (a0 : Int).toNat * 6 + 1, none⟩ = some (.int .i64 ((rd_T44 a4 a0).f1.f0)) := a5 1 _ rfl; have l6 : a3.cell? ⟨a1, (a0 : Int).toNat * 6 + 2, none⟩ = some (.int .i64 ((rd_T44 a4 a0).f1.f1)) := a5 2 _ rfl; have l7 : a3.cell? ⟨a1, (a0 : Int).toNat * 6 + 3, none⟩ = some (.int .i64 ((rd_T44 a4 a0).f1.f2)) := a5 3 _ rfl; have l8 : a3.cell? ⟨a1, (a0 : Int).toNat * 6 + 4, none⟩ = some (i4) := a5 4 _ rfl; have l9 : a3.cell? ⟨a1, (a0 : Int).toNat * 6 + 5, none⟩ = some (i5) := a5 5 _ rfl; have m0 : a3.frozen? ⟨a1, (a0 : Int).toNat * 6, none⟩ = false := a6 0; have m1 : a3.frozen? ⟨a1, (a0 : Int).toNat * 6 + 1, none⟩ = false := a6 1; have m2 : a3.frozen? ⟨a1, (a0 : Int).toNat * 6 + 2, none⟩ = false := a6 2; have m3 : a3.frozen? ⟨a1, (a0 : Int).toNat * 6 + 3, none⟩ = false := a6 3; have m4 : a3.frozen? ⟨a1, (a0 : Int).toNat * 6 + 4, none⟩ = false := a6 4; have m5 : a3.frozen? ⟨a1, (a0 : Int).toNat * 6 + 5, none⟩ = false := a6 5; clear i3 a5 a6; (try clear g1); replace d2 := eq_true d2; replace d3 := eq_true d3; have n_ := zA (Kd.S_mono (ok' := (fun k_ => some k_ ≠ (b7 : Value).ownBlock ∧ some k_ ≠ (b8 : Value).ownBlock)) a2.out (fun k_ hk => ⟨hk.1.2, hk.2⟩)); clear a2; have a2 := n_; clear n_; have i6 := zA (show Kd.S k44 44 a3 w.heap.size (fun k_ => ((fun _ => True)) k_ ∧ ¬ ((fun k_ => some k_ = (b7 : Value).ownBlock ∨ some k_ = (b8 : Value).ownBlock)) k_) (.slice (some ⟨a1, 0, none⟩) a4.length f7) a4 from (by (with_reducible repeat (first | apply Kd.S_alloc | apply Kd.S_drewN | apply Kd.S_drew)); exact Kd.S_mono a2.out (fun k_ hk => ⟨trivial, fun e_ => e_.elim (fun h_ => hk.1 h_) (fun h_ => hk.2 h_)⟩))); obtain ⟨m6, m7, i7, g2, a7, a8, i8, g3⟩ := Kd.S_elem i6.out z44 (a0 : Int) (zD) (by have h_ : (a0 : Int) < ((a4.length : Int) : Int) := zD; first | exact h_ | (have e_ := (Kd.S_reads' a2.out).1; omega) | simpa using h_); obtain ⟨m8, m9, rfl, n0, n1⟩ := k44_openM g2; have d4 := Kd.S_seg g3 (zD) (by have h_ : (a0 : Int) < ((a4.length : Int) : Int) := zD; first | exact h_ | (have e_ := (Kd.S_reads' a2.out).1; omega) | simpa using h_) (seg := [.string a9, .int .i64 b0, .int .i64 b1, .int .i64 b2, b7, b8]) (j := 0) (show 6 ≤ 6 from by decide) (x' := (⟨a9, (⟨b0, b1, b2, b5⟩ : S41), b6⟩ : S44)) (k44_mkM _ _ _ (⟨a9, (⟨b0, b1, b2, b5⟩ : S41), b6⟩ : S44) (Kd.R_mono (Kd.R_tight rfl (Kd.R_mono (ok' := fun k_ => ((fun _ => True)) k_ ∧ k_ ≠ a1) (Kd.R_apart' (b9.out) (Kd.S_typed a2.out) (by decide)) (fun k_ hk => ⟨trivial, fun e_ => (hk.2) (by rw [e_]; rfl)⟩))) (fun _ h_ => Or.inr (Or.inl h_))) (Kd.R_mono (Kd.R_tight rfl (Kd.R_mono (ok' := fun k_ => ((fun _ => True)) k_ ∧ k_ ≠ a1) (Kd.R_apart' (c4.out) (Kd.S_typed a2.out) (by decide)) (fun k_ hk => ⟨trivial, fun e_ => (hk.2) (by rw [e_]; rfl)⟩))) (fun _ h_ => Or.inr (Or.inr (h_))))) (fun _ hk => hk) (fun k_ hk_ => hk_.elim (fun h_ => ((Kd.R_mono (ok' := fun k_ => ((fun _ => True)) k_ ∧ k_ ≠ a1) (Kd.R_apart' (b9.out) (Kd.S_typed a2.out) (by decide)) (fun k_ hk => ⟨trivial, fun e_ => (hk.2) (by rw [e_]; rfl)⟩))).1 k_ h_.symm) (fun h_ => ((Kd.R_mono (ok' := fun k_ => ((fun _ => True)) k_ ∧ k_ ≠ a1) (Kd.R_apart' (c4.out) (Kd.S_typed a2.out) (by decide)) (fun k_ hk => ⟨trivial, fun e_ => (hk.2) (by rw [e_]; rfl)⟩))).1 k_ h_.symm)); have i9 := a7 0 _ rfl; (try simp only [show (k44).sz = 6 from rfl, Nat.mul_one, Nat.add_zero] at i9); have j0 := a8 0; (try simp only [show (k44).sz = 6 from rfl, Nat.mul_one, Nat.add_zero] at j0); have j1 := a7 1 _ rfl; (try simp only [show (k44).sz = 6 from rfl, Nat.mul_one, Nat.add_zero] at j1); have j2 := a8 1; (try simp only [show (k44).sz = 6 from rfl, Nat.mul_one, Nat.add_zero] at j2); have j3 := a7 2 _ rfl; (try simp only [show (k44).sz = 6 from rfl, Nat.mul_one, Nat.add_zero] at j3); have j4 := a8 2; (try simp only [show (k44).sz = 6 from rfl, Nat.mul_one, Nat.add_zero] at j4); have j5 := a7 3 _ rfl; (try simp only [show (k44).sz = 6 from rfl, Nat.mul_one, Nat.add_zero] at j5); have j6 := a8 3; (try simp only [show (k44).sz = 6 from rfl, Nat.mul_one, Nat.add_zero] at j6); have j7 := a7 4 _ rfl; (try simp only [show (k44).sz = 6 from rfl, Nat.mul_one, Nat.add_zero] at j7); have j8 := a8 4; (try simp only [show (k44).sz = 6 from rfl, Nat.mul_one, Nat.add_zero] at j8); have j9 := a7 5 _ rfl; (try simp only [show (k44).sz = 6 from rfl, Nat.mul_one, Nat.add_zero] at j9); have k0 := a8 5; (try simp only [show (k44).sz = 6 from rfl, Nat.mul_one, Nat.add_zero] at k0); clear i7 a7 a8; (try clear g2); clear i8 g3) | ((with_reducible refine gate_store (t := 44) (p := 21) rfl ?_); refine store_event (t := 44) (p := 21) (v := ?vo_w13) (w1 := ((((((a3.setCell ⟨a1, (a0 : Int).toNat * 6, none⟩ (.string a9)).setCell ⟨a1, (a0 : Int).toNat * 6 + 1, none⟩ (.int .i64 b0)).setCell ⟨a1, (a0 : Int).toNat * 6 + 2, none⟩ (.int .i64 b1)).setCell ⟨a1, (a0 : Int).toNat * 6 + 3, none⟩ (.int .i64 b2)).setCell ⟨a1, (a0 : Int).toNat * 6 + 4, none⟩ (b7)).setCell ⟨a1, (a0 : Int).toNat * 6 + 5, none⟩ (b8))) ?hg ?ho ?hn ?hr ?_; (case ho => rfl); (case hg => rfl); (case hn => rfl); (case hr => first | (go_simp; done) | (go_simp; rfl) | ((try (obtain ⟨_, _, e_⟩ := Kd.R_slice b9.out; subst e_)); (try (obtain ⟨_, _, e_⟩ := Kd.R_slice c4.out; subst e_)); first | (go_simp; done) | (go_simp; rfl))); intro d5 hw; have hg : a3.grownBy d5 (some a1) := (by rw [hw]; exact d4.2); have hp_ : Kd.S k44 44 d5 w.heap.size (fun _ => True) (.slice (some ⟨a1, 0, none⟩) a4.length f7) c6 := (by rw [hw, h2.out]; exact d4.1); clear d4; replace a2 := zA (hp_); replace HB := zA ((by rw [hw]; exact below_set (below_set (below_set (below_set (below_set (below_set (HB.out) b3.out) b3.out) b3.out) b3.out) b3.out) b3.out : Below w.heap.size w d5)); clear b9 c4; clear hg hw hp_))
    go_roundg k1
    case measure => have := e1.out; omega
    case rel => exact ⟨(c6), (wrap64 (a0 + 1)), zS, H', ⟨by have := e1.out; omega⟩, ⟨by (with_reducible repeat (first | apply Kd.S_alloc | apply Kd.S_drewN | apply Kd.S_drew)); exact a2.out⟩, ⟨zB⟩⟩
   obtain rfl := zm H
   go_wp2
   go_ret
   exact ⟨_, zE, by (with_reducible repeat (first | apply Kd.S_alloc | apply Kd.S_drewN | apply Kd.S_drew)); exact a2.out, zB⟩
-- NOT PRINTED: function 78 (impl_Entry)
/-! ### slices_Equal_string_string: function 95 -/
mutual
def slices_Equal_string_string.j0 : Nat → List ByteArray → List ByteArray → Option (Bool)
 | 0, _, _ => none
 | k + 1, x0, x1 => slices_Equal_string_string.l0 k x0 x1 (x0.length : Int) 0
def slices_Equal_string_string.l0 : Nat → List ByteArray → List ByteArray → Int → Int → Option (Bool)
 | 0, _, _, _, _ => none
 | k + 1, x0, x1, a1, a0 => if a0 < a1 then (if 0 ≤ a0 then (if a0 < (x0.length : Int) then (if a0 < (x1.length : Int) then (if (rdOf ByteArray.empty x0 a0).toList = (rdOf ByteArray.empty x1 a0).toList then (slices_Equal_string_string.l0 k x0 x1 a1 (wrap64 (a0 + 1))) else (some false)) else (none)) else (none)) else (none)) else (some true)
end
def slices_Equal_string_string.f (k : Nat) (l0 l1 : List ByteArray) : Option (Bool) := if (l0.length : Int) = (l1.length : Int) then (slices_Equal_string_string.j0 k l0 l1) else (some false)
theorem slices_Equal_string_string.calls (k : Nat) (A0 : Option Addr) (c0 : Nat) (l0 : List ByteArray) (A1 : Option Addr) (c1 : Nat) (l1 : List ByteArray) (r : Bool) (w : World) (b1 : Kd.C Kd.string w A0 l0.length l0) (b2 : l0.length ≤ c0) (b3 : Kd.C Kd.string w A1 l1.length l1) (b4 : l1.length ≤ c1) (h : slices_Equal_string_string.f k l0 l1 = some r) :
  Calls Try.prog 95 #[.slice A0 l0.length c0, .slice A1 l1.length c1] w fun e w' => e = .returned (.bool r) ∧ Drawn0 w w' := by
 have b5 := zA b1
 have d3 := zA b2
 clear b1 b2
 have b6 := zA b3
 have d4 := zA b4
 clear b3 b4
 unfold slices_Equal_string_string.f at h
 have H := h
 clear h
 have a6 := zA H
 clear H
 go_enter Try.func95, Try.ntmps95
 go_upto_if 10 with (fail)
 repeat (go_quiet (fail); go_upto_if 10 with (fail))
 go_cut [] (fun wc => ∃ (kq : Nat), Aside0 (slices_Equal_string_string.j0 kq l0 l1 = some r) ∧ Aside0 (kq ≤ k) ∧ Drawn0 w wc)
 case first =>
  have H := a6.out; clear a6; replace H := zI1 H
  rcases H with ⟨c4, H⟩ | ⟨c4, H⟩
  ·have a1 := beq_iff_eq.mpr c4; have a7 := bne_eq_false_iff_eq.mpr c4
   have a8 : (l0.length == l1.length) = true := by first | simpa using c4 | (simp at c4 ⊢; omega)
   clear c4
   (first | rw [a1] | (simp only [i64_w, i32_w]; rw [a1]) | skip)
   have H' := zA H; clear H
   go_wp2
   repeat (go_quiet (fail); try go_wp2)
   go_meet
   case rel => exact ⟨_, (by first | exact H' | (subst_vars; exact H')), ⟨by first | omega | exact Nat.le_refl _⟩, by repeat (first | exact Drawn0.refl _ | apply Drawn0.step)⟩
  have a1 := beq_eq_false_iff_ne.mpr c4; have a7 := bne_iff_ne.mpr c4
  have a8 : (l0.length == l1.length) = false := by first | simpa using c4 | (simp at c4 ⊢; omega)
  (first | rw [a1] | (simp only [i64_w, i32_w]; rw [a1]) | skip)
  obtain rfl := zm H
  go_wp2
  repeat (go_quiet (fail); try go_wp2)
  go_ret
  exact ⟨by first | rfl | (simp; done) | (simp [*]; done) | (simp; rw [Bool.eq_iff_iff]; simp; done), by repeat (first | exact Drawn0.refl _ | apply Drawn0.step)⟩
 case rest =>
  clear a6
  try clear c1
  try clear p2
  try clear c4
  try clear a1
  try clear a7
  try clear a8
  obtain ⟨kq, HA, b7, ⟨d5, rfl⟩⟩ := hcut
  cases kq with
  | zero => exact absurd HA.out (by simp [slices_Equal_string_string.j0])
  | succ b8 =>
   have H := HA.out; clear HA; simp only [slices_Equal_string_string.j0] at H; have H' := zA H; clear H
   go_wp2
   repeat (go_quiet (fail); try go_wp2)
   go_loopg [13] b8 (fun kq c3 w' => ∃ (a0 : Int), c3 = .int .i64 a0 ∧ Aside0 (slices_Equal_string_string.l0 kq l0 l1 (l0.length : Int) a0 = some r) ∧ Aside0 (kq ≤ b8) ∧ Drawn0 w w')
   case atStart => exact ⟨(0), zS, H', ⟨Nat.le_refl _⟩, by repeat (first | exact Drawn0.refl _ | apply Drawn0.step)⟩
   case round =>
    clear H'
    try clear c1
    try clear c2
    try clear p2
    try clear c4
    try clear a1
    try clear a7
    try clear a8
    try clear p2
    obtain ⟨a0, rfl, HA, b9, ⟨m2, rfl⟩⟩ := hrel
    cases gk with
    | zero => exact absurd HA.out (by simp [slices_Equal_string_string.l0])
    | succ k2 =>
     have H := HA.out; clear HA; simp only [slices_Equal_string_string.l0] at H; replace H := zI0 H
     rcases H with ⟨c5, H⟩ | ⟨c5, H⟩
     ·replace H := zD0 H; obtain ⟨d6, H⟩ := H; replace H := zD0 H; obtain ⟨d7, H⟩ := H; replace H := zD0 H; obtain ⟨d8, H⟩ := H; replace H := zI1 H
      rcases H with ⟨c9, H⟩ | ⟨c9, H⟩
      ·have c6 := beq_iff_eq.mpr c9; have c7 := bne_eq_false_iff_eq.mpr c9; clear c9; have H' := zA H; clear H; have a2 : 0 ≤ (a0 : Int) := zD; have a3 : a0 < (l0.length : Int) := zD; obtain ⟨c8, a9, d0⟩ := Kd.at_string b5.out a0 a2 a3; cases a9; replace a2 := eq_true a2; replace a3 := eq_true a3; have a4 : 0 ≤ (a0 : Int) := zD; have a5 : a0 < (l1.length : Int) := zD; obtain ⟨d1, b0, d2⟩ := Kd.at_string b6.out a0 a4 a5; cases b0; replace a4 := eq_true a4; replace a5 := eq_true a5
       go_wp2
       repeat (go_quiet (fail); try go_wp2)
       go_roundg k2
       case measure => have := b7.out; have := b9.out; omega
       case rel => exact ⟨(wrap64 (a0 + 1)), zS, H', ⟨by have := b7.out; have := b9.out; omega⟩, by repeat (first | exact Drawn0.refl _ | apply Drawn0.step)⟩
      have c6 := beq_eq_false_iff_ne.mpr c9; have c7 := bne_iff_ne.mpr c9; obtain rfl := zm H; have a2 : 0 ≤ (a0 : Int) := zD; have a3 : a0 < (l0.length : Int) := zD; obtain ⟨c8, a9, d0⟩ := Kd.at_string b5.out a0 a2 a3; cases a9; replace a2 := eq_true a2; replace a3 := eq_true a3; have a4 : 0 ≤ (a0 : Int) := zD; have a5 : a0 < (l1.length : Int) := zD; obtain ⟨d1, b0, d2⟩ := Kd.at_string b6.out a0 a4 a5; cases b0; replace a4 := eq_true a4; replace a5 := eq_true a5
      go_wp2
      repeat (go_quiet (fail); try go_wp2)
      go_ret
      exact ⟨by first | rfl | (simp; done) | (simp [*]; done) | (simp; rw [Bool.eq_iff_iff]; simp; done), by repeat (first | exact Drawn0.refl _ | apply Drawn0.step)⟩
     obtain rfl := zm H
     go_wp2
     repeat (go_quiet (fail); try go_wp2)
     go_ret
     exact ⟨by first | rfl | (simp; done) | (simp [*]; done) | (simp; rw [Bool.eq_iff_iff]; simp; done), by repeat (first | exact Drawn0.refl _ | apply Drawn0.step)⟩
/-! ### impl_SameVer: function 80 -/
def impl_SameVer.f (k : Nat) (a0 a1 a2 : Int) (a3 : List ByteArray) (a4 a5 a6 : Int) (a7 : List ByteArray) : Option (Bool) := if a0 = a4 then (if a1 = a5 then (if a2 = a6 then ((slices_Equal_string_string.f k a3 a7).bind fun a8 => (some a8)) else (some false)) else (some false)) else (some false)
theorem impl_SameVer.calls (k : Nat) (a6 a7 a8 : Int) (a9 : Option Addr) (b0 : Nat) (a1 : List ByteArray) (b1 b2 b3 : Int) (b4 : Option Addr) (b5 : Nat) (a2 : List ByteArray) (r : Bool) (w : World) (c2 : Kd.C Kd.string w a9 a1.length a1) (c6 : a1.length ≤ b0) (c7 : Kd.C Kd.string w b4 a2.length a2) (c8 : a2.length ≤ b5) (h : impl_SameVer.f k a6 a7 a8 a1 b1 b2 b3 a2 = some r) :
  Calls Try.prog 80 #[.agg #[.int .i64 a6, .int .i64 a7, .int .i64 a8, .slice a9 a1.length b0], .agg #[.int .i64 b1, .int .i64 b2, .int .i64 b3, .slice b4 a2.length b5]] w fun e w' => e = .returned (.bool r) ∧ Below w.heap.size w w' := by
 have e1 := Try.underlying41
 have d0 := zA c2
 have d1 := zA c6
 clear c2 c6
 have d2 := zA c7
 have d3 := zA c8
 clear c7 c8
 have HB := zA (Below.refl w.heap.size w)
 unfold impl_SameVer.f at h
 have H := h
 clear h
 replace H := zI1 H
 rcases H with ⟨c3, H⟩ | ⟨c3, H⟩
 ·have d4 := beq_iff_eq.mpr c3; have d5 := bne_eq_false_iff_eq.mpr c3; clear c3; replace H := zI1 H
  rcases H with ⟨c4, H⟩ | ⟨c4, H⟩
  ·have d6 := beq_iff_eq.mpr c4; have d7 := bne_eq_false_iff_eq.mpr c4; clear c4; replace H := zI1 H
   rcases H with ⟨c5, H⟩ | ⟨c5, H⟩
   ·have d8 := beq_iff_eq.mpr c5; have d9 := bne_eq_false_iff_eq.mpr c5; clear c5; replace H := Option.bind_eq_some_iff.mp H; obtain ⟨e0, c9, H⟩ := H
    try dsimp only at H
    have A6 := zA c9; clear c9; obtain rfl := zm H
    go_enter Try.func80, Try.ntmps80
    go_wp2_with (first | ((with_reducible refine zd 2 ?_); refine ze 2 41 #[.int .i64 a6, .int .i64 a7, .int .i64 a8, .slice a9 a1.length b0] ?_; intro b6 hg w7 hbox hb; have a0 := zA (hbox); have b7 := zi HB hg; have b8 := zi HB hg; replace HB := zA (below_step (zB) hb); clear hb hbox hg) | ((with_reducible refine zd 3 ?_); refine ze 3 41 #[.int .i64 b1, .int .i64 b2, .int .i64 b3, .slice b4 a2.length b5] ?_; intro b9 hg w8 hbox hb; have a3 := zA (hbox); have c0 := zi HB hg; have c1 := zi HB hg; replace HB := zh HB hb; have a4 := zA (zL hg (zK a0.out)); have a5 := zA (zJ hg (zK a0.out)); replace a0 := zb a0 hb; clear hb hbox hg; have e2 := a4.out; have e3 := a5.out; obtain ⟨e4, e5, e6, e7, e8, e9, f0, f1⟩ := ze4 a0.out; obtain ⟨f2, f3, f4, f5, f6, f7, f8, f9⟩ := ze4 a3.out) | (go_at_call 95; (with_reducible refine (slices_Equal_string_string.calls k _ _ a1 _ _ a2 e0 _ ?s1 ?s2 ?s3 ?s4 A6.out).mono ?_); (case s1 => exact zC (Kd.C_below d0.out HB.out)); (case s2 => exact d1.out); (case s3 => exact zC (Kd.C_below d2.out HB.out)); (case s4 => exact d3.out); rintro e w' ⟨rfl, ⟨nd, rfl⟩⟩))
    go_ret
    exact ⟨zE, zW HB.out⟩
   have d8 := beq_eq_false_iff_ne.mpr c5; have d9 := bne_iff_ne.mpr c5; obtain rfl := zm H
   go_enter Try.func80, Try.ntmps80
   go_wp2_with (first | ((with_reducible refine zd 2 ?_); refine ze 2 41 #[.int .i64 a6, .int .i64 a7, .int .i64 a8, .slice a9 a1.length b0] ?_; intro b6 hg g0 hbox hb; have a0 := zA (hbox); have b7 := zi HB hg; have b8 := zi HB hg; replace HB := zA (below_step (zB) hb); clear hb hbox hg) | ((with_reducible refine zd 3 ?_); refine ze 3 41 #[.int .i64 b1, .int .i64 b2, .int .i64 b3, .slice b4 a2.length b5] ?_; intro b9 hg g1 hbox hb; have a3 := zA (hbox); have c0 := zi HB hg; have c1 := zi HB hg; replace HB := zh HB hb; have a4 := zA (zL hg (zK a0.out)); have a5 := zA (zJ hg (zK a0.out)); replace a0 := zb a0 hb; clear hb hbox hg; have g2 := a4.out; have g3 := a5.out; obtain ⟨g4, g5, g6, g7, g8, g9, h0, h1⟩ := ze4 a0.out; obtain ⟨h2, h3, h4, h5, h6, h7, h8, h9⟩ := ze4 a3.out))
   go_ret
   exact ⟨zE, zW HB.out⟩
  have d6 := beq_eq_false_iff_ne.mpr c4; have d7 := bne_iff_ne.mpr c4; obtain rfl := zm H
  go_enter Try.func80, Try.ntmps80
  go_wp2_with (first | ((with_reducible refine zd 2 ?_); refine ze 2 41 #[.int .i64 a6, .int .i64 a7, .int .i64 a8, .slice a9 a1.length b0] ?_; intro b6 hg i0 hbox hb; have a0 := zA (hbox); have b7 := zi HB hg; have b8 := zi HB hg; replace HB := zA (below_step (zB) hb); clear hb hbox hg) | ((with_reducible refine zd 3 ?_); refine ze 3 41 #[.int .i64 b1, .int .i64 b2, .int .i64 b3, .slice b4 a2.length b5] ?_; intro b9 hg i1 hbox hb; have a3 := zA (hbox); have c0 := zi HB hg; have c1 := zi HB hg; replace HB := zh HB hb; have a4 := zA (zL hg (zK a0.out)); have a5 := zA (zJ hg (zK a0.out)); replace a0 := zb a0 hb; clear hb hbox hg; have i2 := a4.out; have i3 := a5.out; obtain ⟨i4, i5, i6, i7, i8, i9, j0, j1⟩ := ze4 a0.out; obtain ⟨j2, j3, j4, j5, j6, j7, j8, j9⟩ := ze4 a3.out))
  go_ret
  exact ⟨zE, zW HB.out⟩
 have d4 := beq_eq_false_iff_ne.mpr c3
 have d5 := bne_iff_ne.mpr c3
 obtain rfl := zm H
 go_enter Try.func80, Try.ntmps80
 go_wp2_with (first | ((with_reducible refine zd 2 ?_); refine ze 2 41 #[.int .i64 a6, .int .i64 a7, .int .i64 a8, .slice a9 a1.length b0] ?_; intro b6 hg k0 hbox hb; have a0 := zA (hbox); have b7 := zi HB hg; have b8 := zi HB hg; replace HB := zA (below_step (zB) hb); clear hb hbox hg) | ((with_reducible refine zd 3 ?_); refine ze 3 41 #[.int .i64 b1, .int .i64 b2, .int .i64 b3, .slice b4 a2.length b5] ?_; intro b9 hg k1 hbox hb; have a3 := zA (hbox); have c0 := zi HB hg; have c1 := zi HB hg; replace HB := zh HB hb; have a4 := zA (zL hg (zK a0.out)); have a5 := zA (zJ hg (zK a0.out)); replace a0 := zb a0 hb; clear hb hbox hg; have k2 := a4.out; have k3 := a5.out; obtain ⟨k4, k5, k6, k7, k8, k9, l0, l1⟩ := ze4 a0.out; obtain ⟨l2, l3, l4, l5, l6, l7, l8, l9⟩ := ze4 a3.out))
 go_ret
 exact ⟨zE, zW HB.out⟩
/-! ### impl_entryAt: function 54 -/
/-- The first place from i on at which a test holds; -1 without one. -/
def impl_entryAt.at {α : Type} (p : α → Option Bool) : List α → Nat → Option Int
 | [], _ => some (-1)
 | x :: l, i => (p x).bind fun b => if b = true then some (i : Int) else impl_entryAt.at p l (i + 1)
def impl_entryAt.test (k : Nat) (a1 : ByteArray) (va vb vc : Int) (vl : List ByteArray) (x : S44) : Option Bool := if x.f0.toList = a1.toList then impl_SameVer.f k x.f1.f0 x.f1.f1 x.f1.f2 x.f1.f3 va vb vc vl else some false
def impl_entryAt.f (k : Nat) (l0 : List S44) (a1 : ByteArray) (va vb vc : Int) (vl : List ByteArray) : Option Int := impl_entryAt.at (impl_entryAt.test k a1 va vb vc vl) l0 0
set_option maxHeartbeats 2000000 in
set_option maxRecDepth 100000 in
theorem impl_entryAt.pred (k gb gv : Nat) (a1 : ByteArray) (va vb vc : Int) (Av : Option Addr) (cv : Nat) (vl : List ByteArray) (x : S44) (A4 : Option Addr) (c4 : Nat) (A5 : Option Addr) (c5 : Nat) (b : Bool) (w : World)
  (a2 : w.heap[gb]? = some (.cells #[.string a1] 9 (0, 0))) (a0 : w.heap[gv]? = some (.cells #[.int .i64 va, .int .i64 vb, .int .i64 vc, .slice Av vl.length cv] 41 (0, 0))) (a3 : Kd.C Kd.string w A4 x.f1.f3.length x.f1.f3) (a4 : x.f1.f3.length ≤ c4) (hrv : Kd.C Kd.string w Av vl.length vl) (hcv : vl.length ≤ cv)
  (h : impl_entryAt.test k a1 va vb vc vl x = some b) :
  Calls Try.prog 79 #[.agg #[.string x.f0, .int .i64 x.f1.f0, .int .i64 x.f1.f1, .int .i64 x.f1.f2, .slice A4 x.f1.f3.length c4, .slice A5 x.f2.length c5], .pointer (some ⟨gb, 0, none⟩), .pointer (some ⟨gv, 0, none⟩)] w fun e w' => e = .returned (.bool b) ∧ Below w.heap.size w w' := by
 have hlb : gb < w.heap.size := blk_lt a2
 have hlv : gv < w.heap.size := blk_lt a0
 have a5 : gb ≠ w.heap.size := by omega
 have a6 : gv ≠ w.heap.size := by omega
 have hcb : w.cell? ⟨gb, 0, none⟩ = some (.string a1) := (blk_cell a2 0).trans rfl
 have a7 : w.cell? ⟨gv, 0, none⟩ = some (.int .i64 va) := (blk_cell a0 0).trans rfl
 have a8 : w.cell? ⟨gv, 1, none⟩ = some (.int .i64 vb) := (blk_cell a0 1).trans rfl
 have a9 : w.cell? ⟨gv, 2, none⟩ = some (.int .i64 vc) := (blk_cell a0 2).trans rfl
 have b0 : w.cell? ⟨gv, 3, none⟩ = some (.slice Av vl.length cv) := (blk_cell a0 3).trans rfl
 have R4 := zA a3
 have C4 := zA a4
 have RV := zA hrv
 have CV := zA hcv
 clear a3 a4 hrv hcv a2 a0
 unfold impl_entryAt.test at h
 by_cases hn : x.f0.toList = a1.toList
 ·rw [if_pos hn] at h; have HS := zA h; have s0 : (x.f0.toList == a1.toList) = true := beq_iff_eq.mpr hn; clear h hn
  go_enter Try.func79, Try.ntmps79
  go_wp2_with (go_at_call 80; (with_reducible refine (impl_SameVer.calls k x.f1.f0 x.f1.f1 x.f1.f2 _ _ x.f1.f3 va vb vc _ _ vl b _ ?s1 ?s2 ?s3 ?s4 HS.out).mono ?_); (case s1 => repeat (first | exact R4.out | (with_reducible refine Kd.C_alloc ?_ _) | (with_reducible refine Kd.C_drewN ?_ _) | (with_reducible refine Kd.C_drew ?_))); (case s2 => exact C4.out); (case s3 => repeat (first | exact RV.out | (with_reducible refine Kd.C_alloc ?_ _) | (with_reducible refine Kd.C_drewN ?_ _) | (with_reducible refine Kd.C_drew ?_))); (case s4 => exact CV.out); rintro e w' ⟨rfl, hb'⟩)
  go_ret
  exact ⟨rfl, below_step (below_alloc (Below.refl _ _) _) hb'⟩
 rw [if_neg hn] at h
 obtain rfl := Option.some.inj h
 have s0 : (x.f0.toList == a1.toList) = false := beq_eq_false_iff_ne.mpr hn
 clear h hn
 go_enter Try.func79, Try.ntmps79
 go_wp2
 go_ret
 exact ⟨rfl, below_alloc (Below.refl _ _) _⟩
set_option maxHeartbeats 2000000 in
set_option maxRecDepth 100000 in
theorem impl_entryAt.index (p : S44 → Option Bool) (gb gv : Nat) (A0 : Option Addr) (c0 : Nat) (l0 : List S44) (r : Int) (w : World) (a0 : Kd.C k44 w A0 l0.length l0) (a3 : l0.length ≤ c0)
  (hp : ∀ (W : World) (x : S44) (A4 : Option Addr) (c4 : Nat) (A5 : Option Addr) (c5 : Nat) (b : Bool), Below w.heap.size w W → Kd.C Kd.string W A4 x.f1.f3.length x.f1.f3 → x.f1.f3.length ≤ c4 → p x = some b → Calls Try.prog 79 #[.agg #[.string x.f0, .int .i64 x.f1.f0, .int .i64 x.f1.f1, .int .i64 x.f1.f2, .slice A4 x.f1.f3.length c4, .slice A5 x.f2.length c5], .pointer (some ⟨gb, 0, none⟩), .pointer (some ⟨gv, 0, none⟩)] W fun e w' => e = .returned (.bool b) ∧ Below W.heap.size W w')
  (h : impl_entryAt.at p l0 0 = some r) :
  Calls Try.prog 78 #[.slice A0 l0.length c0, .func (.func 79) #[] #[.pointer (some ⟨gb, 0, none⟩), .pointer (some ⟨gv, 0, none⟩)]] w fun e w' => e = .returned (.int .i64 r) ∧ Below w.heap.size w w' := by
 have hmax : l0.length ≤ 9223372036854775807 := a0.2.1
 have a4 := zA a0
 have HP := zA hp
 have H0 := zA h
 have HM := zA hmax
 clear a0 a3 hp h
 go_enter Try.func78, Try.ntmps78
 go_wp2
 go_loopg [5, 8] l0.length (fun gg _ s8 wr => ∃ kk : Nat, kk ≤ l0.length ∧ l0.length - kk ≤ gg ∧ s8 = .int .i64 kk ∧ Aside0 (Below w.heap.size w wr) ∧ Aside0 (impl_entryAt.at p (l0.drop kk) kk = some r))
 case atStart => exact ⟨0, Nat.zero_le _, by omega, rfl, ⟨Below.refl _ w⟩, H0⟩
 case round =>
  clear H0; obtain ⟨kk, hkk, hg, rfl, BW, HA⟩ := hrel
  by_cases hlt : kk < l0.length
  ·have hltz : (kk : Int) < (l0.length : Int) := by omega
   have h0z : (0 : Int) ≤ (kk : Int) := by omega
   obtain ⟨ad, A4, c4, A5, c5, e', a5, a6, a7, a8, a9, b0, a1, a2, b1, b2⟩ := at_T44 (Kd.C_below a4.out BW.out) (kk : Int) h0z hltz
   cases e'
   rw [Int.toNat_natCast] at a5 a6 a7 a8 a9 b0
   have hget : rd_T44 l0 (kk : Int) = l0[kk] := by
    unfold rd_T44; rw [List.getD_eq_getElem?_getD, Int.toNat_natCast, List.getElem?_eq_getElem hlt]
    rfl
   have H := HA.out; rw [List.drop_eq_getElem_cons hlt, ← hget] at H; unfold impl_entryAt.at at H; replace H := Option.bind_eq_some_iff.mp H; obtain ⟨b, hb, H⟩ := H; have HC := zA (fun W' (hW : Below w.heap.size w W') (hi : Kd.C Kd.string W' A4 (rd_T44 l0 (kk : Int)).f1.f3.length (rd_T44 l0 (kk : Int)).f1.f3) => HP.out W' (rd_T44 l0 (kk : Int)) A4 c4 A5 c5 b hW hi a1 hb); have HI := zA a2; clear hget hb a2 b2 a1 b1 HA
   cases b with
   | true =>
    simp only [if_true, Option.some.injEq] at H; subst H
    go_wp2_with (go_at_call 79; refine (HC.out _ BW.out HI.out).mono ?_; rintro e w' ⟨rfl, hb'⟩)
    go_ret
    exact ⟨rfl, below_step BW.out hb'⟩
   | false =>
    simp only [Bool.false_eq_true, if_false] at H; have HN := zA H; clear H
    go_wp2_with (go_at_call 79; refine (HC.out _ BW.out HI.out).mono ?_; rintro e w' ⟨rfl, hb'⟩)
    go_roundg (l0.length - (kk + 1))
    case measure => omega
    case rel => exact ⟨kk + 1, by omega, by omega, by go_num, ⟨below_step BW.out hb'⟩, HN⟩
  have hltz : ¬ (kk : Int) < (l0.length : Int) := by omega
  have H := HA.out; rw [List.drop_eq_nil_of_le (by omega)] at H; simp only [impl_entryAt.at, Option.some.injEq] at H; subst H
  go_wp2
  go_ret
  exact ⟨rfl, BW.out⟩
set_option maxHeartbeats 2000000 in
set_option maxRecDepth 100000 in
theorem impl_entryAt.calls (k : Nat) (A0 : Option Addr) (c0 : Nat) (l0 : List S44) (a1 : ByteArray) (va vb vc : Int) (Av : Option Addr) (cv : Nat) (vl : List ByteArray) (r : Int) (w : World) (a0 : Kd.C k44 w A0 l0.length l0) (a2 : l0.length ≤ c0) (hrv : Kd.C Kd.string w Av vl.length vl) (hcv : vl.length ≤ cv) (h : impl_entryAt.f k l0 a1 va vb vc vl = some r) :
  Calls Try.prog 54 #[.slice A0 l0.length c0, .string a1, .agg #[.int .i64 va, .int .i64 vb, .int .i64 vc, .slice Av vl.length cv]] w fun e w' => e = .returned (.int .i64 r) ∧ Below w.heap.size w w' := by
 have B1 := below_alloc (Below.refl w.heap.size w) (.cells #[.string a1] 9)
 have B2 := below_alloc B1 (.cells #[.int .i64 va, .int .i64 vb, .int .i64 vc, .slice Av vl.length cv] 41)
 have a3 : (w.alloc (.cells #[.string a1] 9)).heap.size = w.heap.size + 1 := by simp
 have hW : ∀ W : World, Below ((w.alloc (.cells #[.string a1] 9)).alloc (.cells #[.int .i64 va, .int .i64 vb, .int .i64 vc, .slice Av vl.length cv] 41)).heap.size ((w.alloc (.cells #[.string a1] 9)).alloc (.cells #[.int .i64 va, .int .i64 vb, .int .i64 vc, .slice Av vl.length cv] 41)) W → W.heap[w.heap.size]? = some (.cells #[.string a1] 9 (0, 0)) ∧ W.heap[w.heap.size + 1]? = some (.cells #[.int .i64 va, .int .i64 vb, .int .i64 vc, .slice Av vl.length cv] 41 (0, 0)) ∧ Below w.heap.size w W := by
  intro W hb
  refine ⟨blk_below (blk_alloc (blk_new w _) _) hb, ?_, below_step B2 hb⟩
  rw [← a3]
  exact blk_below (blk_new _ _) hb
 have HC := zA (impl_entryAt.index (impl_entryAt.test k a1 va vb vc vl) w.heap.size (w.heap.size + 1) A0 c0 l0 r ((w.alloc (.cells #[.string a1] 9)).alloc (.cells #[.int .i64 va, .int .i64 vb, .int .i64 vc, .slice Av vl.length cv] 41)) (Kd.C_below a0 B2) a2 (fun W x A4 c4 A5 c5 b hb hi hl hp => by
  obtain ⟨h1, h2, h3⟩ := hW W hb
  exact impl_entryAt.pred k w.heap.size (w.heap.size + 1) a1 va vb vc Av cv vl x A4 c4 A5 c5 b W h1 h2 hi hl (Kd.C_below hrv h3) hcv hp) h)
 have a4 := zA B2
 clear a0 a2 hrv hcv h B1 B2 a3 hW
 go_enter Try.func54, Try.ntmps54
 go_wp2_with (go_at_call 78; refine HC.out.mono ?_; rintro e w' ⟨rfl, hb'⟩)
 go_ret
 exact ⟨rfl, below_step a4.out hb'⟩
/-! ### slices_Clone_string_string: function 74 -/
def slices_Clone_string_string.f (l0 : List ByteArray) : Option (List ByteArray) := (some (([] : List ByteArray) : List ByteArray)).bind fun a0 => (if a0.length + l0.length < 8796093022208 then (some (a0 ++ l0)) else (none))
theorem slices_Clone_string_string.calls (A0 : Option Addr) (c0 : Nat) (l0 r : List ByteArray) (w : World) (a5 : Kd.C Kd.string w A0 l0.length l0) (a6 : l0.length ≤ c0) (h : slices_Clone_string_string.f l0 = some r) :
  Calls Try.prog 74 #[.slice A0 l0.length c0] w fun e w' => ∃ a7 : Value, e = .returned (a7) ∧ Kd.R Kd.string 9 w' w.heap.size (fun _ => True) a7 r ∧ Below w.heap.size w w' := by
 have a8 := zA a5
 have b5 := zA a6
 clear a5 a6
 have HB := zA (Below.refl w.heap.size w)
 unfold slices_Clone_string_string.f at h
 have H := h
 clear h
 obtain ⟨a1, a2⟩ : ∃ y_ : List ByteArray, y_ = (([] : List ByteArray)) := ⟨_, rfl⟩
 replace H : (if a1.length + l0.length < 8796093022208 then (some (a1 ++ l0)) else (none)) = some r := zY a2 H
 have a3 := zA a2
 clear a2
 replace H := zC0 H
 obtain ⟨c2, H⟩ := H
 have b1 := zA c2
 clear c2
 obtain ⟨b2, a4⟩ : ∃ y_ : List ByteArray, y_ = (a1 ++ l0) := ⟨_, rfl⟩
 replace H : (some b2) = some r := zY a4 H
 have a9 := zA a4
 clear a4
 obtain rfl := zm H
 rcases A0 with _ | A0v
 ·have he_ : l0 = [] := by
   rcases l0 with _ | ⟨x_, l_⟩
   ·rfl
   ·obtain ⟨_, h_, _⟩ := a8.out.2.2 (by simp); cases h_
  subst he_
  have hq_ : ∀ W : World, Sem.run Try.prog (Go.binOp .eql 23 (.slice none 0 c0) (.slice none 0 0)) W = .ok (.bool true) W := fun W => by rw [Lib.run_eql_slice_nil W 23 9 none 0 c0 0 0 Try.underlying23]; rfl
  go_enter Try.func74, Try.ntmps74
  go_wp2
  go_ret
  exact ⟨_, rfl, (by rw [a9.out, a3.out]; exact Kd.R_nil _ _ _ _ _), zB⟩
 have hq_ : ∀ W : World, Sem.run Try.prog (Go.binOp .eql 23 (.slice (some A0v) l0.length c0) (.slice none 0 0)) W = .ok (.bool false) W := fun W => by rw [Lib.run_eql_slice_nil W 23 9 (some A0v) l0.length c0 0 0 Try.underlying23]; rfl
 go_enter Try.func74, Try.ntmps74
 go_wp2_with (first | ((with_reducible refine gate_dst (N := 5) rfl ?_); refine Kd.R_lit Kd.string _ 9 ?hg (N := 5) ?hd (xs := ([] : List ByteArray)) (inner := []) (ok := fun _ => True) ?hr ?hp (fun _ hk => hk) trivial (Below.refl _ _) (Nat.le_refl _) (by simp) ?_; (case hd => rfl); (case hg => rfl); (case hr => first | (go_simp; done) | (go_simp; rfl)); (case hp => exact (Reps.none _ _)); intro b3 w3 a0 hb hg_ hnew_; clear hg_ hnew_; (first | rw [← a3.out] at a0 | (simp only [Int.reduceToNat] at a0; rw [← a3.out] at a0)); have b0 := zA (Kd.R_lower a0 (below_size (zB))); replace HB := zA (below_step (zB) hb); clear hb a0) | ((with_reducible refine gate_builtin (b := .append) (xs := #[.tmp 5, .tmp 6]) rfl ?_); at_builtin; refine Kd.R_append_rows Kd.string (w0 := w) w.heap.size rfl (.tmp 5) (.tmp 6) 23 9 (.string ⟨#[]⟩) 16 rfl Try.underlying23 info9 rfl (by decide) (by omega) b3 a1 l0 _ _ _ (fun _ => True) (fun _ => False) rfl rfl ?aO ?aR (fun _ _ h => h) (fun _ h => h.elim) ?aF ?aB ?aS ?aL ?_; (case aR => repeat (first | exact (Kd.C_below a8.out HB.out) | (with_reducible refine Kd.C_alloc ?_ _) | (with_reducible refine Kd.C_drewN ?_ _) | (with_reducible refine Kd.C_drew ?_))); (case aB => exact (zB)); (case aF => exact (fun _ _ => trivial)); (case aO => exact (zR b0.out)); (case aS => exact (below_size (zB))); (case aL => have := b1.out; omega); intro b6 w5 ho hb hg hat; rw [← a9.out] at ho; replace HB := zA (hb); have b4 := zA (ho); clear b0; clear ho hb hg hat))
 go_ret
 exact ⟨_, zE, zR b4.out, zB⟩
/-! ### impl_copyVer: function 81 -/
def impl_copyVer.f (a0 a1 a2 : Int) (a3 : List ByteArray) : Option (Int × Int × Int × List ByteArray) := (slices_Clone_string_string.f a3).bind fun a4 => (some (a0, a1, a2, a4))
theorem impl_copyVer.calls (a2 a3 a4 : Int) (a7 : Option Addr) (a8 : Nat) (a1 : List ByteArray) (r1 r2 r3 : Int) (r4 : List ByteArray) (w : World) (b2 : Kd.C Kd.string w a7 a1.length a1) (b3 : a1.length ≤ a8) (h : impl_copyVer.f a2 a3 a4 a1 = some (r1, r2, r3, r4)) :
  Calls Try.prog 81 #[.agg #[.int .i64 a2, .int .i64 a3, .int .i64 a4, .slice a7 a1.length a8]] w fun e w' => ∃ b4 : Value, e = .returned (.agg #[.int .i64 r1, .int .i64 r2, .int .i64 r3, b4]) ∧ Kd.R Kd.string 9 w' w.heap.size (fun _ => True) b4 r4 ∧ Below w.heap.size w w' := by
 have c4 := Try.underlying41
 have b8 := zA b2
 have b9 := zA b3
 clear b2 b3
 have HB := zA (Below.refl w.heap.size w)
 unfold impl_copyVer.f at h
 have H := h
 clear h
 replace H := Option.bind_eq_some_iff.mp H
 obtain ⟨a9, b5, H⟩ := H
 try dsimp only at H
 have A2 := zA b5
 clear b5
 simp only [zU] at H
 obtain ⟨rfl, rfl, rfl, rfl⟩ := H
 go_enter Try.func81, Try.ntmps81
 go_wp2_with (first | ((with_reducible refine zd 1 ?_); refine ze 1 41 #[.int .i64 a2, .int .i64 a3, .int .i64 a4, .slice a7 a1.length a8] ?_; intro c0 hg w3 hbox hb; have a0 := zA (hbox); have c5 := zi HB hg; have c6 := zi HB hg; replace HB := zA (below_step (zB) hb); clear hb hbox hg) | ((with_reducible refine zd 2 ?_); refine ze 2 41 #[.int .i64 0, .int .i64 0, .int .i64 0, .slice none 0 0] ?_; intro a5 hg w4 hbox hb; have a6 := zA (hbox); have c7 := zi HB hg; have c8 := zi HB hg; replace HB := zh HB hb; have c1 := zA (zL hg (zK a0.out)); have c2 := zA (zJ hg (zK a0.out)); replace a0 := zb a0 hb; clear hb hbox hg; have c9 := c1.out; have d0 := c2.out; obtain ⟨d1, d2, d3, d4, d5, d6, d7, d8⟩ := ze4 a0.out) | ((with_reducible refine zq 74 ?_); refine zg (some 5) Try.func74 #[.slice a7 a1.length a8] ?_; (with_reducible refine (slices_Clone_string_string.calls _ _ a1 a9 _ ?s1 ?s2 A2.out).mono ?_); (case s1 => exact zC (Kd.C_below b8.out HB.out)); (case s2 => exact b9.out); rintro e w7 ⟨d9, rfl, b6, hb⟩; refine ⟨_, rfl, ?_⟩; have b7 := zA (Kd.R_lower b6 (below_size (zW HB.out))); replace a0 := zb a0 hb; replace a6 := zb a6 hb; replace HB := zh HB hb; (try clear hb b6); obtain ⟨b0, b1, c3⟩ := Kd.R_slice b7.out; subst c3; obtain ⟨e0, e1, e2, e3, e4, e5, e6, e7⟩ := ze4 a0.out; obtain ⟨e8, e9, f0, f1, f2, f3, f4, f5⟩ := ze4 a6.out))
 refine bodyPost_ret (results_cell_row rfl _ _ a5 41 #[.int .i64 a2, .int .i64 a3, .int .i64 a4, .slice b0 a9.length b1] (0, 0) _ rfl (zk4 a6.out) Try.underlying41 rfl (by kernel_rfl)) rfl ?_
 exact ⟨_, zE, zR (Kd.R_mono (Kd.R_far (p := ⟨a5, 3, none⟩) (Kd.R_far (p := ⟨a5, 2, none⟩) (Kd.R_far (p := ⟨a5, 1, none⟩) (Kd.R_far (p := ⟨a5, 0, none⟩) (Kd.R_far (p := ⟨c0, 3, none⟩) (Kd.R_types (Kd.R_types b7.out a0.out (by decide)) a6.out (by decide)) (fun _ hk => hk.1.2) (.slice b0 a9.length b1)) (fun _ hk => hk.2) (.int .i64 a2)) (fun _ hk => hk.2) (.int .i64 a3)) (fun _ hk => hk.2) (.int .i64 a4)) (fun _ hk => hk.2) (.slice b0 a9.length b1)) (fun _ hk => trivial)), zW HB.out⟩
/-! ### impl_Need: function 82 -/
def impl_Need.f (l0 : List (S94)) : Option ((List (S94))) := (some (([] : List (S94)) : List (S94))).bind fun a0 => (if a0.length + l0.length < 4398046511104 then (some (a0 ++ l0)) else (none))
theorem impl_Need.calls (A0 : Option Addr) (c0 : Nat) (l0 : List (S94)) (r : List (S94)) (w : World) (a5 : Kd.C k94 w A0 l0.length l0) (a6 : l0.length ≤ c0) (h : impl_Need.f l0 = some r) :
  Calls Try.prog 82 #[.slice A0 l0.length c0] w fun e w' => ∃ a7 : Value, e = .returned (a7) ∧ Kd.R k94 94 w' w.heap.size (fun _ => True) a7 r ∧ Below w.heap.size w w' := by
 have a8 := zA a5
 have b5 := zA a6
 clear a5 a6
 have HB := zA (Below.refl w.heap.size w)
 unfold impl_Need.f at h
 have H := h
 clear h
 obtain ⟨a1, a2⟩ : ∃ y_ : List (S94), y_ = (([] : List (S94))) := ⟨_, rfl⟩
 replace H : (if a1.length + l0.length < 4398046511104 then (some (a1 ++ l0)) else (none)) = some r := zY a2 H
 have a3 := zA a2
 clear a2
 replace H := zC0 H
 obtain ⟨c2, H⟩ := H
 have b1 := zA c2
 clear c2
 obtain ⟨b2, a4⟩ : ∃ y_ : List (S94), y_ = (a1 ++ l0) := ⟨_, rfl⟩
 replace H : (some b2) = some r := zY a4 H
 have a9 := zA a4
 clear a4
 obtain rfl := zm H
 rcases A0 with _ | A0v
 ·have he_ : l0 = [] := by
   rcases l0 with _ | ⟨x_, l_⟩
   ·rfl
   ·obtain ⟨_, h_, _⟩ := a8.out.2.2 (by simp); cases h_
  subst he_
  have hq_ : ∀ W : World, Sem.run Try.prog (Go.binOp .eql 42 (.slice none 0 c0) (.slice none 0 0)) W = .ok (.bool true) W := fun W => by rw [Lib.run_eql_slice_nil W 42 94 none 0 c0 0 0 Try.underlying42]; rfl
  go_enter Try.func82, Try.ntmps82
  go_wp2
  go_ret
  exact ⟨_, rfl, (by rw [a9.out, a3.out]; exact Kd.R_nil _ _ _ _ _), zB⟩
 have hq_ : ∀ W : World, Sem.run Try.prog (Go.binOp .eql 42 (.slice (some A0v) l0.length c0) (.slice none 0 0)) W = .ok (.bool false) W := fun W => by rw [Lib.run_eql_slice_nil W 42 94 (some A0v) l0.length c0 0 0 Try.underlying42]; rfl
 go_enter Try.func82, Try.ntmps82
 go_wp2_with (first | ((with_reducible refine gate_dst (N := 5) rfl ?_); refine Kd.R_lit k94 _ 94 ?hg (N := 5) ?hd (xs := ([] : List (S94))) (inner := []) (ok := fun _ => True) ?hr ?hp (fun _ hk => hk) trivial (Below.refl _ _) (Nat.le_refl _) (by simp) ?_; (case hd => rfl); (case hg => rfl); (case hr => first | (go_simp; done) | (go_simp; rfl)); (case hp => exact (Reps.none _ _)); intro b3 w3 a0 hb hg_ hnew_; clear hg_ hnew_; (first | rw [← a3.out] at a0 | (simp only [Int.reduceToNat] at a0; rw [← a3.out] at a0)); have b0 := zA (Kd.R_lower a0 (below_size (zB))); replace HB := zA (below_step (zB) hb); clear hb a0) | ((with_reducible refine gate_builtin (b := .append) (xs := #[.tmp 5, .tmp 6]) rfl ?_); at_builtin; refine Kd.R_append_rows k94 (w0 := w) w.heap.size rfl (.tmp 5) (.tmp 6) 42 94 (.agg #[(.string ⟨#[]⟩), (.string ⟨#[]⟩)]) 32 rfl Try.underlying42 info94 rfl (by decide) (by omega) b3 a1 l0 _ _ _ (fun _ => True) (fun _ => False) rfl rfl ?aO ?aR (fun _ _ h => h) (fun _ h => h.elim) ?aF ?aB ?aS ?aL ?_; (case aR => repeat (first | exact (Kd.C_below a8.out HB.out) | (with_reducible refine Kd.C_alloc ?_ _) | (with_reducible refine Kd.C_drewN ?_ _) | (with_reducible refine Kd.C_drew ?_))); (case aB => exact (zB)); (case aF => exact (fun _ _ => trivial)); (case aO => exact (zR b0.out)); (case aS => exact (below_size (zB))); (case aL => have := b1.out; omega); intro b6 w5 ho hb hg hat; rw [← a9.out] at ho; replace HB := zA (hb); have b4 := zA (ho); clear b0; clear ho hb hg hat))
 go_ret
 exact ⟨_, zE, zR b4.out, zB⟩
/-! ### impl_copyEntry: function 55 -/
def impl_copyEntry.f (a1 : ByteArray) (a2 a3 a4 : Int) (a5 : List ByteArray) (a6 : List (S94)) : Option (ByteArray × Int × Int × Int × List ByteArray × (List (S94))) := (impl_copyVer.f a2 a3 a4 a5).bind fun a0 => ((impl_Need.f a6).bind fun a7 => (some (a1, a0.1, a0.2.1, a0.2.2.1, a0.2.2.2, a7)))
theorem impl_copyEntry.calls (a0 : ByteArray) (b7 b4 b0 : Int) (b1 : Option Addr) (b2 : Nat) (a5 : List ByteArray) (a7 : Option Addr) (a8 : Nat) (a2 : List (S94)) (r1 : ByteArray) (r2 r3 r4 : Int) (r5 : List ByteArray) (r6 : List (S94)) (w : World) (c5 : Kd.C Kd.string w b1 a5.length a5) (c6 : a5.length ≤ b2) (c7 : Kd.C k94 w a7 a2.length a2) (c8 : a2.length ≤ a8) (h : impl_copyEntry.f a0 b7 b4 b0 a5 a2 = some (r1, r2, r3, r4, r5, r6)) :
  Calls Try.prog 55 #[.agg #[.string a0, .int .i64 b7, .int .i64 b4, .int .i64 b0, .slice b1 a5.length b2, .slice a7 a2.length a8]] w fun e w' => ∃ c9 d0 : Value, e = .returned (.agg #[.string r1, .int .i64 r2, .int .i64 r3, .int .i64 r4, c9, d0]) ∧ Kd.R Kd.string 9 w' w.heap.size (fun _ => True) c9 r5 ∧ Kd.R k94 94 w' w.heap.size (fun _ => True) d0 r6 ∧ Below w.heap.size w w' := by
 have e2 := Try.underlying44
 have e3 := Try.underlying41
 have d5 := zA c5
 have d6 := zA c6
 clear c5 c6
 have d7 := zA c7
 have d8 := zA c8
 clear c7 c8
 have HB := zA (Below.refl w.heap.size w)
 unfold impl_copyEntry.f at h
 have H := h
 clear h
 replace H := Option.bind_eq_some_iff.mp H
 obtain ⟨⟨a3, a6, a9, b5⟩, d1, H⟩ := H
 try dsimp only at H
 have A2 := zA d1
 clear d1
 replace H := Option.bind_eq_some_iff.mp H
 obtain ⟨b8, d2, H⟩ := H
 try dsimp only at H
 have A3 := zA d2
 clear d2
 simp only [zU] at H
 obtain ⟨rfl, rfl, rfl, rfl, rfl, rfl⟩ := H
 go_enter Try.func55, Try.ntmps55
 go_wp2_with (first | ((with_reducible refine zd 1 ?_); refine ze 1 44 #[.string a0, .int .i64 b7, .int .i64 b4, .int .i64 b0, .slice b1 a5.length b2, .slice a7 a2.length a8] ?_; intro b6 hg w4 hbox hb; have a1 := zA (hbox); have e4 := zi HB hg; have e5 := zi HB hg; replace HB := zA (below_step (zB) hb); clear hb hbox hg) | ((with_reducible refine zd 2 ?_); refine ze 2 44 #[.string (⟨#[]⟩ : ByteArray), .int .i64 0, .int .i64 0, .int .i64 0, .slice none 0 0, .slice none 0 0] ?_; intro a4 hg w5 hbox hb; have b3 := zA (hbox); have e6 := zi HB hg; have e7 := zi HB hg; replace HB := zh HB hb; have d9 := zA (zL hg (zK a1.out)); have d3 := zA (zJ hg (zK a1.out)); replace a1 := zb a1 hb; clear hb hbox hg; have e8 := d9.out; have e9 := d3.out; obtain ⟨f0, f1, f2, f3, f4, f5, f6, f7, f8, f9, g0, g1⟩ := ze6 a1.out) | ((with_reducible refine zq 81 ?_); refine zg (some 5) Try.func81 #[.agg #[.int .i64 b7, .int .i64 b4, .int .i64 b0, .slice b1 a5.length b2]] ?_; (with_reducible refine (impl_copyVer.calls b7 b4 b0 _ _ a5 a3 a6 a9 b5 _ ?s1 ?s2 A2.out).mono ?_); (case s1 => exact zC (Kd.C_below d5.out HB.out)); (case s2 => exact d6.out); rintro e w8 ⟨g2, rfl, c1, hb⟩; refine ⟨_, rfl, ?_⟩; have c4 := zA (Kd.R_lower c1 (below_size (zW HB.out))); replace a1 := zb a1 hb; replace b3 := zb b3 hb; replace HB := zh HB hb; (try clear hb c1); obtain ⟨g3, g4, g5, g6, g7, g8, g9, h0, h1, h2, h3, h4⟩ := ze6 a1.out; obtain ⟨b9, c0, e0⟩ := Kd.R_slice c4.out; subst e0) | ((with_reducible refine zq 82 ?_); refine zg (some 9) Try.func82 #[.slice a7 a2.length a8] ?_; (with_reducible refine (impl_Need.calls _ _ a2 b8 _ ?s1 ?s2 A3.out).mono ?_); (case s1 => exact Kd.C_below d7.out (zW HB.out)); (case s2 => exact d8.out); rintro e h5 ⟨h6, rfl, c1, hb⟩; refine ⟨_, rfl, ?_⟩; replace c4 := zA (Kd.R_below (zR (Kd.R_mono (Kd.R_far (p := ⟨b6, 4, none⟩) (Kd.R_far (p := ⟨b6, 3, none⟩) (Kd.R_far (p := ⟨b6, 2, none⟩) (Kd.R_far (p := ⟨b6, 1, none⟩) (Kd.R_types c4.out a1.out (by decide)) (fun _ hk => hk.2) (.int .i64 a3)) (fun _ hk => hk.2) (.int .i64 a6)) (fun _ hk => hk.2) (.int .i64 a9)) (fun _ hk => hk.2) (.slice b9 b5.length c0)) (fun _ h_ => h_.1))) hb); have d4 := zA (Kd.R_lower c1 (below_size (zW HB.out))); replace a1 := zA (blk_below (g := b6) (o := .cells #[.string a0, .int .i64 a3, .int .i64 a6, .int .i64 a9, .slice b9 b5.length c0, .slice a7 a2.length a8] 44 (0, 0)) (by (with_reducible repeat (first | refine blk_drewN ?_ _ | refine blk_drew ?_ | refine blk_alloc ?_ _)); refine blk_put (cs := #[.string a0, .int .i64 a3, .int .i64 a6, .int .i64 a9, .slice b1 a5.length b2, .slice a7 a2.length a8]) ?_ 4 _ rfl; (with_reducible repeat (first | refine blk_drewN ?_ _ | refine blk_drew ?_ | refine blk_alloc ?_ _)); refine blk_put (cs := #[.string a0, .int .i64 a3, .int .i64 a6, .int .i64 b0, .slice b1 a5.length b2, .slice a7 a2.length a8]) ?_ 3 _ rfl; (with_reducible repeat (first | refine blk_drewN ?_ _ | refine blk_drew ?_ | refine blk_alloc ?_ _)); refine blk_put (cs := #[.string a0, .int .i64 a3, .int .i64 b4, .int .i64 b0, .slice b1 a5.length b2, .slice a7 a2.length a8]) ?_ 2 _ rfl; (with_reducible repeat (first | refine blk_drewN ?_ _ | refine blk_drew ?_ | refine blk_alloc ?_ _)); refine blk_put (cs := #[.string a0, .int .i64 b7, .int .i64 b4, .int .i64 b0, .slice b1 a5.length b2, .slice a7 a2.length a8]) ?_ 1 _ rfl; (with_reducible repeat (first | refine blk_drewN ?_ _ | refine blk_drew ?_ | refine blk_alloc ?_ _)); exact a1.out) hb); replace b3 := zb b3 hb; replace HB := zh HB hb; (try clear hb c1); obtain ⟨c2, c3, e1⟩ := Kd.R_slice d4.out; subst e1; obtain ⟨h7, h8, h9, i0, i1, i2, i3, i4, i5, i6, i7, i8⟩ := ze6 a1.out; obtain ⟨i9, j0, j1, j2, j3, j4, j5, j6, j7, j8, j9, k0⟩ := ze6 b3.out))
 refine bodyPost_ret (results_cell_row rfl _ _ a4 44 #[.string a0, .int .i64 a3, .int .i64 a6, .int .i64 a9, .slice b9 b5.length c0, .slice c2 b8.length c3] (0, 0) _ rfl (by (with_reducible repeat (first | refine blk_drewN ?_ _ | refine blk_drew ?_ | refine blk_alloc ?_ _)); refine blk_put (cs := #[.string a0, .int .i64 a3, .int .i64 a6, .int .i64 a9, .slice b9 b5.length c0, .slice none 0 0]) ?_ 5 _ rfl; (with_reducible repeat (first | refine blk_drewN ?_ _ | refine blk_drew ?_ | refine blk_alloc ?_ _)); refine blk_put (cs := #[.string a0, .int .i64 a3, .int .i64 a6, .int .i64 a9, .slice none 0 0, .slice none 0 0]) ?_ 4 _ rfl; (with_reducible repeat (first | refine blk_drewN ?_ _ | refine blk_drew ?_ | refine blk_alloc ?_ _)); refine blk_put (cs := #[.string a0, .int .i64 a3, .int .i64 a6, .int .i64 0, .slice none 0 0, .slice none 0 0]) ?_ 3 _ rfl; (with_reducible repeat (first | refine blk_drewN ?_ _ | refine blk_drew ?_ | refine blk_alloc ?_ _)); refine blk_put (cs := #[.string a0, .int .i64 a3, .int .i64 0, .int .i64 0, .slice none 0 0, .slice none 0 0]) ?_ 2 _ rfl; (with_reducible repeat (first | refine blk_drewN ?_ _ | refine blk_drew ?_ | refine blk_alloc ?_ _)); refine blk_put (cs := #[.string a0, .int .i64 0, .int .i64 0, .int .i64 0, .slice none 0 0, .slice none 0 0]) ?_ 1 _ rfl; (with_reducible repeat (first | refine blk_drewN ?_ _ | refine blk_drew ?_ | refine blk_alloc ?_ _)); refine blk_put (cs := #[.string (⟨#[]⟩ : ByteArray), .int .i64 0, .int .i64 0, .int .i64 0, .slice none 0 0, .slice none 0 0]) ?_ 0 _ rfl; (with_reducible repeat (first | refine blk_drewN ?_ _ | refine blk_drew ?_ | refine blk_alloc ?_ _)); refine blk_far ?_ d3.out _; (with_reducible repeat (first | refine blk_drewN ?_ _ | refine blk_drew ?_ | refine blk_alloc ?_ _)); exact b3.out) Try.underlying44 rfl (by kernel_rfl)) rfl ?_
 exact ⟨_, _, zE, zR (Kd.R_mono (Kd.R_far (p := ⟨a4, 5, none⟩) (Kd.R_far (p := ⟨a4, 4, none⟩) (Kd.R_far (p := ⟨a4, 3, none⟩) (Kd.R_far (p := ⟨a4, 2, none⟩) (Kd.R_far (p := ⟨a4, 1, none⟩) (Kd.R_far (p := ⟨a4, 0, none⟩) (Kd.R_far (p := ⟨b6, 5, none⟩) (Kd.R_types (Kd.R_types c4.out a1.out (by decide)) b3.out (by decide)) (fun _ hk => hk.1.2) (.slice c2 b8.length c3)) (fun _ hk => hk.2) (.string a0)) (fun _ hk => hk.2) (.int .i64 a3)) (fun _ hk => hk.2) (.int .i64 a6)) (fun _ hk => hk.2) (.int .i64 a9)) (fun _ hk => hk.2) (.slice b9 b5.length c0)) (fun _ hk => hk.2) (.slice c2 b8.length c3)) (fun _ hk => trivial)), zR (Kd.R_mono (Kd.R_far (p := ⟨a4, 5, none⟩) (Kd.R_far (p := ⟨a4, 4, none⟩) (Kd.R_far (p := ⟨a4, 3, none⟩) (Kd.R_far (p := ⟨a4, 2, none⟩) (Kd.R_far (p := ⟨a4, 1, none⟩) (Kd.R_far (p := ⟨a4, 0, none⟩) (Kd.R_far (p := ⟨b6, 5, none⟩) (Kd.R_types (Kd.R_types d4.out a1.out (by decide)) b3.out (by decide)) (fun _ hk => hk.1.2) (.slice c2 b8.length c3)) (fun _ hk => hk.2) (.string a0)) (fun _ hk => hk.2) (.int .i64 a3)) (fun _ hk => hk.2) (.int .i64 a6)) (fun _ hk => hk.2) (.int .i64 a9)) (fun _ hk => hk.2) (.slice b9 b5.length c0)) (fun _ hk => hk.2) (.slice c2 b8.length c3)) (fun _ hk => trivial)), zW HB.out⟩
/-! ### impl_EntryOf: function 19 -/
def impl_EntryOf.f (k : Nat) (l0 : List (S44)) (a1 : ByteArray) (a3 a4 a5 : Int) (a6 : List ByteArray) : Option (ByteArray × Int × Int × Int × List ByteArray × (List (S94)) × Bool) := (impl_entryAt.f k l0 a1 a3 a4 a5 a6).bind fun a0 => (if a0 < 0 then (some ((⟨#[]⟩ : ByteArray), 0, 0, 0, ([] : List ByteArray), ([] : List (S94)), false)) else (if 0 ≤ a0 then (if a0 < (l0.length : Int) then ((impl_copyEntry.f ((rd_T44 l0 a0).f0) ((rd_T44 l0 a0).f1.f0) ((rd_T44 l0 a0).f1.f1) ((rd_T44 l0 a0).f1.f2) ((rd_T44 l0 a0).f1.f3) ((rd_T44 l0 a0).f2)).bind fun a2 => (some (a2.1, a2.2.1, a2.2.2.1, a2.2.2.2.1, a2.2.2.2.2.1, a2.2.2.2.2.2, true))) else (none)) else (none)))
theorem impl_EntryOf.calls (k : Nat) (A0 : Option Addr) (c0 : Nat) (l0 : List (S44)) (a1 : ByteArray) (a5 a6 a7 : Int) (a9 : Option Addr) (b0 : Nat) (a4 : List ByteArray) (r1 : ByteArray) (r2 r3 r4 : Int) (r5 : List ByteArray) (r6 : List (S94)) (r7 : Bool) (w : World) (c2 : Kd.C k44 w A0 l0.length l0) (c3 : l0.length ≤ c0) (c4 : Kd.C Kd.string w a9 a4.length a4) (c5 : a4.length ≤ b0) (h : impl_EntryOf.f k l0 a1 a5 a6 a7 a4 = some (r1, r2, r3, r4, r5, r6, r7)) :
  Calls Try.prog 19 #[.slice A0 l0.length c0, .string a1, .agg #[.int .i64 a5, .int .i64 a6, .int .i64 a7, .slice a9 a4.length b0]] w fun e w' => ∃ c6 c7 : Value, e = .returned (.tuple #[.agg #[.string r1, .int .i64 r2, .int .i64 r3, .int .i64 r4, c6, c7], .bool r7]) ∧ Kd.R Kd.string 9 w' w.heap.size (fun _ => True) c6 r5 ∧ Kd.R k94 94 w' w.heap.size (fun _ => True) c7 r6 ∧ Below w.heap.size w w' := by
 have h4 := Try.underlying41
 have h5 := Try.underlying44
 have b4 := zA c2
 have c8 := zA c3
 clear c2 c3
 have c9 := zA c4
 have d0 := zA c5
 clear c4 c5
 have HB := zA (Below.refl w.heap.size w)
 unfold impl_EntryOf.f at h
 have H := h
 clear h
 replace H := Option.bind_eq_some_iff.mp H
 obtain ⟨a0, d1, H⟩ := H
 try dsimp only at H
 have A4 := zA d1
 clear d1
 replace H := zI0 H
 rcases H with ⟨f4, H⟩ | ⟨f4, H⟩
 ·simp only [zU] at H; obtain ⟨rfl, rfl, rfl, rfl, rfl, rfl, rfl⟩ := H
  go_enter Try.func19, Try.ntmps19
  go_wp2_with (first | ((with_reducible refine zd 5 ?_); refine ze 5 41 #[.int .i64 a5, .int .i64 a6, .int .i64 a7, .slice a9 a4.length b0] ?_; intro f5 hg w6 hbox hb; have a2 := zA (hbox); have f6 := zi HB hg; have f7 := zi HB hg; replace HB := zA (below_step (zB) hb); clear hb hbox hg) | ((with_reducible refine zd 6 ?_); refine ze 6 44 #[.string (⟨#[]⟩ : ByteArray), .int .i64 0, .int .i64 0, .int .i64 0, .slice none 0 0, .slice none 0 0] ?_; intro b5 hg w7 hbox hb; have a3 := zA (hbox); have f8 := zi HB hg; have f9 := zi HB hg; replace HB := zh HB hb; have b6 := zA (zL hg (zK a2.out)); have b7 := zA (zJ hg (zK a2.out)); replace a2 := zb a2 hb; clear hb hbox hg; have h6 := b6.out; have h7 := b7.out; obtain ⟨h8, h9, i0, i1, i2, i3, i4, i5⟩ := ze4 a2.out) | ((with_reducible refine zq 54 ?_); refine zg (some 12) Try.func54 #[.slice A0 l0.length c0, .string a1, .agg #[.int .i64 a5, .int .i64 a6, .int .i64 a7, .slice a9 a4.length b0]] ?_; (with_reducible refine (impl_entryAt.calls k _ _ l0 a1 a5 a6 a7 _ _ a4 a0 _ ?s1 ?s2 ?s3 ?s4 A4.out).mono ?_); (case s1 => exact zC (Kd.C_below b4.out HB.out)); (case s2 => exact c8.out); (case s3 => exact zC (Kd.C_below c9.out HB.out)); (case s4 => exact d0.out); rintro e i6 ⟨rfl, hb⟩; refine ⟨_, rfl, ?_⟩; replace a2 := zb a2 hb; replace a3 := zb a3 hb; replace HB := zh HB hb; (try clear hb); obtain ⟨i7, i8, i9, j0, j1, j2, j3, j4, j5, j6, j7, j8⟩ := ze6 a3.out))
  refine bodyPost_ret (results_ct rfl _ _ b5 44 #[.string (⟨#[]⟩ : ByteArray), .int .i64 0, .int .i64 0, .int .i64 0, .slice none 0 0, .slice none 0 0] (0, 0) _ rfl (by (with_reducible repeat (first | refine blk_drewN ?_ _ | refine blk_drew ?_ | refine blk_alloc ?_ _)); refine blk_put (cs := #[.string (⟨#[]⟩ : ByteArray), .int .i64 0, .int .i64 0, .int .i64 0, .slice none 0 0, .slice none 0 0]) ?_ 5 _ rfl; (with_reducible repeat (first | refine blk_drewN ?_ _ | refine blk_drew ?_ | refine blk_alloc ?_ _)); refine blk_put (cs := #[.string (⟨#[]⟩ : ByteArray), .int .i64 0, .int .i64 0, .int .i64 0, .slice none 0 0, .slice none 0 0]) ?_ 4 _ rfl; (with_reducible repeat (first | refine blk_drewN ?_ _ | refine blk_drew ?_ | refine blk_alloc ?_ _)); refine blk_put (cs := #[.string (⟨#[]⟩ : ByteArray), .int .i64 0, .int .i64 0, .int .i64 0, .slice none 0 0, .slice none 0 0]) ?_ 3 _ rfl; (with_reducible repeat (first | refine blk_drewN ?_ _ | refine blk_drew ?_ | refine blk_alloc ?_ _)); refine blk_put (cs := #[.string (⟨#[]⟩ : ByteArray), .int .i64 0, .int .i64 0, .int .i64 0, .slice none 0 0, .slice none 0 0]) ?_ 2 _ rfl; (with_reducible repeat (first | refine blk_drewN ?_ _ | refine blk_drew ?_ | refine blk_alloc ?_ _)); refine blk_put (cs := #[.string (⟨#[]⟩ : ByteArray), .int .i64 0, .int .i64 0, .int .i64 0, .slice none 0 0, .slice none 0 0]) ?_ 1 _ rfl; (with_reducible repeat (first | refine blk_drewN ?_ _ | refine blk_drew ?_ | refine blk_alloc ?_ _)); refine blk_put (cs := #[.string (⟨#[]⟩ : ByteArray), .int .i64 0, .int .i64 0, .int .i64 0, .slice none 0 0, .slice none 0 0]) ?_ 0 _ rfl; (with_reducible repeat (first | refine blk_drewN ?_ _ | refine blk_drew ?_ | refine blk_alloc ?_ _)); exact a3.out) Try.underlying44 rfl (by kernel_rfl)) rfl ?_
  exact ⟨_, _, zE, by first | exact Kd.R_nil _ _ _ _ _ | exact Kd.N_nil _ _ _ _ _ | exact Kd.V_nil _ _ _ _ _ | exact Kd.Q_nil _ _ _ _ _ | exact Kd.S_nil _ _ _ _ _, by first | exact Kd.R_nil _ _ _ _ _ | exact Kd.N_nil _ _ _ _ _ | exact Kd.V_nil _ _ _ _ _ | exact Kd.Q_nil _ _ _ _ _ | exact Kd.S_nil _ _ _ _ _, zW HB.out⟩
 replace H := zD0 H
 obtain ⟨j9, H⟩ := H
 replace H := zD0 H
 obtain ⟨k0, H⟩ := H
 replace H := Option.bind_eq_some_iff.mp H
 obtain ⟨⟨a8, b1, b2, b3, b8, d2⟩, d3, H⟩ := H
 try dsimp only at H
 have g0 := zA d3
 clear d3
 simp only [zU] at H
 obtain ⟨rfl, rfl, rfl, rfl, rfl, rfl, rfl⟩ := H
 go_enter Try.func19, Try.ntmps19
 go_wp2_with (first | ((with_reducible refine zd 5 ?_); refine ze 5 41 #[.int .i64 a5, .int .i64 a6, .int .i64 a7, .slice a9 a4.length b0] ?_; intro f5 hg k1 hbox hb; have a2 := zA (hbox); have f6 := zi HB hg; have f7 := zi HB hg; replace HB := zA (below_step (zB) hb); clear hb hbox hg) | ((with_reducible refine zd 6 ?_); refine ze 6 44 #[.string (⟨#[]⟩ : ByteArray), .int .i64 0, .int .i64 0, .int .i64 0, .slice none 0 0, .slice none 0 0] ?_; intro b5 hg k2 hbox hb; have a3 := zA (hbox); have f8 := zi HB hg; have f9 := zi HB hg; replace HB := zh HB hb; have b6 := zA (zL hg (zK a2.out)); have b7 := zA (zJ hg (zK a2.out)); replace a2 := zb a2 hb; clear hb hbox hg; have k3 := b6.out; have k4 := b7.out; obtain ⟨k5, k6, k7, k8, k9, l1, l2, l3⟩ := ze4 a2.out) | ((with_reducible refine zq 54 ?_); refine zg (some 12) Try.func54 #[.slice A0 l0.length c0, .string a1, .agg #[.int .i64 a5, .int .i64 a6, .int .i64 a7, .slice a9 a4.length b0]] ?_; (with_reducible refine (impl_entryAt.calls k _ _ l0 a1 a5 a6 a7 _ _ a4 a0 _ ?s1 ?s2 ?s3 ?s4 A4.out).mono ?_); (case s1 => exact zC (Kd.C_below b4.out HB.out)); (case s2 => exact c8.out); (case s3 => exact zC (Kd.C_below c9.out HB.out)); (case s4 => exact d0.out); rintro e l4 ⟨rfl, hb⟩; refine ⟨_, rfl, ?_⟩; replace a2 := zb a2 hb; replace a3 := zb a3 hb; replace HB := zh HB hb; (try clear hb); have b9 : 0 ≤ (a0 : Int) := zD; have c1 : a0 < (l0.length : Int) := zD; obtain ⟨l5, g1, g2, g3, g4, g5, d4, d5, d6, d7, d8, d9, e0, e1, e2, e3⟩ := at_T44 b4.out a0 b9 c1; cases g5; replace d4 := zx HB d4; replace d5 := zx HB d5; replace d6 := zx HB d6; replace d7 := zx HB d7; replace d8 := zx HB d8; replace d9 := zx HB d9; have g6 := zA e1; have g7 := zA e0; clear e1 e0; have g8 := zA e3; have g9 := zA e2; clear e3 e2; replace b9 := eq_true b9; replace c1 := eq_true c1) | ((with_reducible refine zq 55 ?_); refine zg (some 20) Try.func55 #[.agg #[.string ((rd_T44 l0 a0).f0), .int .i64 ((rd_T44 l0 a0).f1.f0), .int .i64 ((rd_T44 l0 a0).f1.f1), .int .i64 ((rd_T44 l0 a0).f1.f2), .slice g1 ((rd_T44 l0 a0).f1.f3).length g2, .slice g3 ((rd_T44 l0 a0).f2).length g4]] ?_; (with_reducible refine (impl_copyEntry.calls ((rd_T44 l0 a0).f0) ((rd_T44 l0 a0).f1.f0) ((rd_T44 l0 a0).f1.f1) ((rd_T44 l0 a0).f1.f2) _ _ ((rd_T44 l0 a0).f1.f3) _ _ ((rd_T44 l0 a0).f2) a8 b1 b2 b3 b8 d2 _ ?s1 ?s2 ?s3 ?s4 g0.out).mono ?_); (case s1 => exact zC (Kd.C_below g6.out HB.out)); (case s2 => exact g7.out); (case s3 => exact zC (Kd.C_below g8.out HB.out)); (case s4 => exact g9.out); rintro e l6 ⟨l7, l8, rfl, e4, e5, hb⟩; refine ⟨_, rfl, ?_⟩; have e6 := zA (Kd.R_lower e4 (below_size (zW HB.out))); have e7 := zA (Kd.R_lower e5 (below_size (zW HB.out))); replace a2 := zb a2 hb; replace a3 := zb a3 hb; replace HB := zh HB hb; (try clear hb e4 e5); obtain ⟨l9, m0, m1, m2, m3, m4, m5, m6, m7, m8, m9, n0⟩ := ze6 a3.out; obtain ⟨e8, e9, h0⟩ := Kd.R_slice e6.out; subst h0; obtain ⟨h1, h2, h3⟩ := Kd.R_slice e7.out; subst h3))
 refine bodyPost_ret (results_ct rfl _ _ b5 44 #[.string a8, .int .i64 b1, .int .i64 b2, .int .i64 b3, .slice e8 b8.length e9, .slice h1 d2.length h2] (0, 0) _ rfl (by (with_reducible repeat (first | refine blk_drewN ?_ _ | refine blk_drew ?_ | refine blk_alloc ?_ _)); refine blk_put (cs := #[.string a8, .int .i64 b1, .int .i64 b2, .int .i64 b3, .slice e8 b8.length e9, .slice none 0 0]) ?_ 5 _ rfl; (with_reducible repeat (first | refine blk_drewN ?_ _ | refine blk_drew ?_ | refine blk_alloc ?_ _)); refine blk_put (cs := #[.string a8, .int .i64 b1, .int .i64 b2, .int .i64 b3, .slice none 0 0, .slice none 0 0]) ?_ 4 _ rfl; (with_reducible repeat (first | refine blk_drewN ?_ _ | refine blk_drew ?_ | refine blk_alloc ?_ _)); refine blk_put (cs := #[.string a8, .int .i64 b1, .int .i64 b2, .int .i64 0, .slice none 0 0, .slice none 0 0]) ?_ 3 _ rfl; (with_reducible repeat (first | refine blk_drewN ?_ _ | refine blk_drew ?_ | refine blk_alloc ?_ _)); refine blk_put (cs := #[.string a8, .int .i64 b1, .int .i64 0, .int .i64 0, .slice none 0 0, .slice none 0 0]) ?_ 2 _ rfl; (with_reducible repeat (first | refine blk_drewN ?_ _ | refine blk_drew ?_ | refine blk_alloc ?_ _)); refine blk_put (cs := #[.string a8, .int .i64 0, .int .i64 0, .int .i64 0, .slice none 0 0, .slice none 0 0]) ?_ 1 _ rfl; (with_reducible repeat (first | refine blk_drewN ?_ _ | refine blk_drew ?_ | refine blk_alloc ?_ _)); refine blk_put (cs := #[.string (⟨#[]⟩ : ByteArray), .int .i64 0, .int .i64 0, .int .i64 0, .slice none 0 0, .slice none 0 0]) ?_ 0 _ rfl; (with_reducible repeat (first | refine blk_drewN ?_ _ | refine blk_drew ?_ | refine blk_alloc ?_ _)); exact a3.out) Try.underlying44 rfl (by kernel_rfl)) rfl ?_
 exact ⟨_, _, zE, zR (Kd.R_mono (zr6 e6.out a3.out) (fun _ hk => trivial)), zR (Kd.R_mono (zr6 e7.out a3.out) (fun _ hk => trivial)), zW HB.out⟩
/-! ### laws_eqStringS: function 45 -/
mutual
def laws_eqStringS.j0 : Nat → List ByteArray → List ByteArray → Option (Bool)
 | 0, _, _ => none
 | k + 1, x0, x1 => laws_eqStringS.l0 k x0 x1 0
def laws_eqStringS.l0 : Nat → List ByteArray → List ByteArray → Int → Option (Bool)
 | 0, _, _, _ => none
 | k + 1, x0, x1, x5 => if x5 < (x0.length : Int) then (if 0 ≤ x5 then (if x5 < (x1.length : Int) then (if (rdOf ByteArray.empty x0 x5).toList = (rdOf ByteArray.empty x1 x5).toList then (laws_eqStringS.l0 k x0 x1 (wrap64 (x5 + 1))) else (some false)) else (none)) else (none)) else (some true)
end
def laws_eqStringS.f (k : Nat) (l0 l1 : List ByteArray) : Option (Bool) := if (l0.length : Int) = (l1.length : Int) then (laws_eqStringS.j0 k l0 l1) else (some false)
theorem laws_eqStringS.calls (k : Nat) (A0 : Option Addr) (c0 : Nat) (l0 : List ByteArray) (A1 : Option Addr) (c1 : Nat) (l1 : List ByteArray) (r : Bool) (w : World) (b1 : Kd.C Kd.string w A0 l0.length l0) (b2 : l0.length ≤ c0) (b3 : Kd.C Kd.string w A1 l1.length l1) (b4 : l1.length ≤ c1) (h : laws_eqStringS.f k l0 l1 = some r) :
  Calls Try.prog 45 #[.slice A0 l0.length c0, .slice A1 l1.length c1] w fun e w' => e = .returned (.bool r) ∧ Drawn0 w w' := by
 have b5 := zA b1
 have d2 := zA b2
 clear b1 b2
 have b6 := zA b3
 have d3 := zA b4
 clear b3 b4
 unfold laws_eqStringS.f at h
 have H := h
 clear h
 have a6 := zA H
 clear H
 go_enter Try.func45, Try.ntmps45
 go_upto_if 10 with (fail)
 repeat (go_quiet (fail); go_upto_if 10 with (fail))
 go_cut [] (fun wc => ∃ (kq : Nat), Aside0 (laws_eqStringS.j0 kq l0 l1 = some r) ∧ Aside0 (kq ≤ k) ∧ Drawn0 w wc)
 case first =>
  have H := a6.out; clear a6; replace H := zI1 H
  rcases H with ⟨c4, H⟩ | ⟨c4, H⟩
  ·have a1 := beq_iff_eq.mpr c4; have a7 := bne_eq_false_iff_eq.mpr c4
   have a8 : (l0.length == l1.length) = true := by first | simpa using c4 | (simp at c4 ⊢; omega)
   clear c4
   (first | rw [a1] | (simp only [i64_w, i32_w]; rw [a1]) | skip)
   have H' := zA H; clear H
   go_wp2
   repeat (go_quiet (fail); try go_wp2)
   go_meet
   case rel => exact ⟨_, (by first | exact H' | (subst_vars; exact H')), ⟨by first | omega | exact Nat.le_refl _⟩, by repeat (first | exact Drawn0.refl _ | apply Drawn0.step)⟩
  have a1 := beq_eq_false_iff_ne.mpr c4; have a7 := bne_iff_ne.mpr c4
  have a8 : (l0.length == l1.length) = false := by first | simpa using c4 | (simp at c4 ⊢; omega)
  (first | rw [a1] | (simp only [i64_w, i32_w]; rw [a1]) | skip)
  obtain rfl := zm H
  go_wp2
  repeat (go_quiet (fail); try go_wp2)
  go_ret
  exact ⟨by first | rfl | (simp; done) | (simp [*]; done) | (simp; rw [Bool.eq_iff_iff]; simp; done), by repeat (first | exact Drawn0.refl _ | apply Drawn0.step)⟩
 case rest =>
  clear a6
  try clear c1
  try clear p2
  try clear c4
  try clear a1
  try clear a7
  try clear a8
  obtain ⟨kq, HA, b7, ⟨d4, rfl⟩⟩ := hcut
  cases kq with
  | zero => exact absurd HA.out (by simp [laws_eqStringS.j0])
  | succ b8 =>
   have H := HA.out; clear HA; simp only [laws_eqStringS.j0] at H; have H' := zA H; clear H
   go_wp2
   repeat (go_quiet (fail); try go_wp2)
   go_loopg [5] b8 (fun kq v5 w' => ∃ (a0 : Int), v5 = .int .i64 a0 ∧ Aside0 (laws_eqStringS.l0 kq l0 l1 a0 = some r) ∧ Aside0 (kq ≤ b8) ∧ Drawn0 w w')
   case atStart => exact ⟨(0), zS, H', ⟨Nat.le_refl _⟩, by repeat (first | exact Drawn0.refl _ | apply Drawn0.step)⟩
   case round =>
    clear H'
    try clear c1
    try clear c2
    try clear p2
    try clear c4
    try clear a1
    try clear a7
    try clear a8
    try clear p2
    obtain ⟨a0, rfl, HA, b9, ⟨m2, rfl⟩⟩ := hrel
    cases gk with
    | zero => exact absurd HA.out (by simp [laws_eqStringS.l0])
    | succ k2 =>
     have H := HA.out; clear HA; simp only [laws_eqStringS.l0] at H; replace H := zI0 H
     rcases H with ⟨c3, H⟩ | ⟨c3, H⟩
     ·replace H := zD0 H; obtain ⟨d5, H⟩ := H; replace H := zD0 H; obtain ⟨d6, H⟩ := H; replace H := zI1 H
      rcases H with ⟨c8, H⟩ | ⟨c8, H⟩
      ·have c5 := beq_iff_eq.mpr c8; have c6 := bne_eq_false_iff_eq.mpr c8; clear c8; have H' := zA H; clear H; have a2 : 0 ≤ (a0 : Int) := zD; have a3 : a0 < (l0.length : Int) := zD; obtain ⟨c7, a9, c9⟩ := Kd.at_string b5.out a0 a2 a3; cases a9; replace a2 := eq_true a2; replace a3 := eq_true a3; have a4 : 0 ≤ (a0 : Int) := zD; have a5 : a0 < (l1.length : Int) := zD; obtain ⟨d0, b0, d1⟩ := Kd.at_string b6.out a0 a4 a5; cases b0; replace a4 := eq_true a4; replace a5 := eq_true a5
       go_wp2
       repeat (go_quiet (fail); try go_wp2)
       go_roundg k2
       case measure => have := b7.out; have := b9.out; omega
       case rel => exact ⟨(wrap64 (a0 + 1)), zS, H', ⟨by have := b7.out; have := b9.out; omega⟩, by repeat (first | exact Drawn0.refl _ | apply Drawn0.step)⟩
      have c5 := beq_eq_false_iff_ne.mpr c8; have c6 := bne_iff_ne.mpr c8; obtain rfl := zm H; have a2 : 0 ≤ (a0 : Int) := zD; have a3 : a0 < (l0.length : Int) := zD; obtain ⟨c7, a9, c9⟩ := Kd.at_string b5.out a0 a2 a3; cases a9; replace a2 := eq_true a2; replace a3 := eq_true a3; have a4 : 0 ≤ (a0 : Int) := zD; have a5 : a0 < (l1.length : Int) := zD; obtain ⟨d0, b0, d1⟩ := Kd.at_string b6.out a0 a4 a5; cases b0; replace a4 := eq_true a4; replace a5 := eq_true a5
      go_wp2
      repeat (go_quiet (fail); try go_wp2)
      go_ret
      exact ⟨by first | rfl | (simp; done) | (simp [*]; done) | (simp; rw [Bool.eq_iff_iff]; simp; done), by repeat (first | exact Drawn0.refl _ | apply Drawn0.step)⟩
     obtain rfl := zm H
     go_wp2
     repeat (go_quiet (fail); try go_wp2)
     go_ret
     exact ⟨by first | rfl | (simp; done) | (simp [*]; done) | (simp; rw [Bool.eq_iff_iff]; simp; done), by repeat (first | exact Drawn0.refl _ | apply Drawn0.step)⟩
/-! ### laws_eqVer: function 22 -/
mutual
def laws_eqVer.j0 : Nat → Int → Int → Int → List ByteArray → Int → Int → Int → List ByteArray → Option (Bool)
 | 0, _, _, _, _, _, _, _, _ => none
 | k + 1, a6, a0, a1, a2, a7, a3, a4, a5 => if a0 = a3 then (laws_eqVer.j1 k a6 a0 a1 a2 a7 a3 a4 a5) else (some false)
def laws_eqVer.j1 : Nat → Int → Int → Int → List ByteArray → Int → Int → Int → List ByteArray → Option (Bool)
 | 0, _, _, _, _, _, _, _, _ => none
 | k + 1, a6, a0, a1, a2, a7, a3, a4, a5 => if a1 = a4 then ((laws_eqStringS.f k a2 a5).bind fun a8 => (if a8 = true then (some true) else (some false))) else (some false)
end
def laws_eqVer.f (k : Nat) (a0 a2 a3 : Int) (a4 : List ByteArray) (a1 a5 a6 : Int) (a7 : List ByteArray) : Option (Bool) := if a0 = a1 then (laws_eqVer.j0 k a0 a2 a3 a4 a1 a5 a6 a7) else (some false)
theorem laws_eqVer.calls (k : Nat) (a4 a5 a6 : Int) (a7 : Option Addr) (a8 : Nat) (a0 : List ByteArray) (a9 b0 b1 : Int) (b2 : Option Addr) (b3 : Nat) (a1 : List ByteArray) (r : Bool) (w : World) (c5 : Kd.C Kd.string w a7 a0.length a0) (c7 : a0.length ≤ a8) (c8 : Kd.C Kd.string w b2 a1.length a1) (d0 : a1.length ≤ b3) (h : laws_eqVer.f k a4 a5 a6 a0 a9 b0 b1 a1 = some r) :
  Calls Try.prog 22 #[.agg #[.int .i64 a4, .int .i64 a5, .int .i64 a6, .slice a7 a0.length a8], .agg #[.int .i64 a9, .int .i64 b0, .int .i64 b1, .slice b2 a1.length b3]] w fun e w' => e = .returned (.bool r) ∧ Below w.heap.size w w' := by
 have h7 := Try.underlying41
 have d1 := zA c5
 have d2 := zA c7
 clear c5 c7
 have d3 := zA c8
 have d4 := zA d0
 clear c8 d0
 have HB := zA (Below.refl w.heap.size w)
 unfold laws_eqVer.f at h
 have H := h
 clear h
 have c0 := zA H
 clear H
 go_enter Try.func22, Try.ntmps22
 go_upto_if 9 with (first | ((with_reducible refine zd 2 ?_); refine ze 2 41 #[.int .i64 a4, .int .i64 a5, .int .i64 a6, .slice a7 a0.length a8] ?_; intro d5 hg w4 hbox hb; have a2 := zA (hbox); have h8 := zi HB hg; have h9 := zi HB hg; replace HB := zA (below_step (zB) hb); clear hb hbox hg) | ((with_reducible refine zd 3 ?_); refine ze 3 41 #[.int .i64 a9, .int .i64 b0, .int .i64 b1, .slice b2 a1.length b3] ?_; intro d6 hg w5 hbox hb; have a3 := zA (hbox); have i0 := zi HB hg; have i1 := zi HB hg; replace HB := zh HB hb; have b8 := zA (zL hg (zK a2.out)); have b9 := zA (zJ hg (zK a2.out)); replace a2 := zb a2 hb; clear hb hbox hg; have i2 := b8.out; have i3 := b9.out; obtain ⟨d7, d8, d9, e0, e1, e2, e3, e4⟩ := ze4 a2.out; obtain ⟨e5, e6, e7, e8, e9, f0, f1, f2⟩ := ze4 a3.out))
 (try simp only [Act.put, zT])
 go_cut [] (fun wc => ∃ (kq : Nat), Aside0 (laws_eqVer.j0 kq a4 a5 a6 a0 a9 b0 b1 a1 = some r) ∧ Aside0 (kq ≤ k) ∧ Aside0 (wc.heap[d5]? = some (.cells #[.int .i64 a4, .int .i64 a5, .int .i64 a6, (.slice a7 a0.length a8)] 41 (0, 0))) ∧ Aside0 (wc.heap[d6]? = some (.cells #[.int .i64 a9, .int .i64 b0, .int .i64 b1, (.slice b2 a1.length b3)] 41 (0, 0))) ∧ Aside0 (Below w.heap.size w wc))
 case first =>
  have H := c0.out; clear c0; replace H := zI1 H
  rcases H with ⟨c9, H⟩ | ⟨c9, H⟩
  ·have b4 := beq_iff_eq.mpr c9; have c3 := bne_eq_false_iff_eq.mpr c9; clear c9
   (first | rw [b4] | (simp only [i64_w, i32_w]; rw [b4]) | skip)
   have H' := zA H; clear H
   go_wp2
   go_meet
   case rel => exact ⟨_, (by first | exact H' | (subst_vars; exact H')), ⟨by first | omega | exact Nat.le_refl _⟩, ⟨zK a2.out⟩, ⟨zK a3.out⟩, ⟨zW HB.out⟩⟩
  have b4 := beq_eq_false_iff_ne.mpr c9; have c3 := bne_iff_ne.mpr c9
  (first | rw [b4] | (simp only [i64_w, i32_w]; rw [b4]) | skip)
  obtain rfl := zm H
  go_wp2
  go_ret
  exact ⟨zE, zW HB.out⟩
 case rest =>
  clear c0
  try clear c1
  try clear c2
  try clear p2
  try clear c6
  try clear c9
  try clear b4
  try clear c3
  try clear d7 d8 d9 e0 e1 e2 e3 e4
  try clear e5 e6 e7 e8 e9 f0 f1 f2
  obtain ⟨kq, HA, f7, a2, a3, HB⟩ := hcut
  cases kq with
  | zero => exact absurd HA.out (by simp [laws_eqVer.j0])
  | succ f8 =>
   have H := HA.out; clear HA; simp only [laws_eqVer.j0] at H; have c4 := zA H; clear H; have i4 := b8.out; have i5 := b9.out; obtain ⟨f9, g0, g1, g2, g3, g4, g5, g6⟩ := ze4 a2.out; obtain ⟨g7, g8, g9, h0, h1, h2, h3, h4⟩ := ze4 a3.out
   go_upto_if 14 with (fail)
   go_cut [] (fun wc => ∃ (kq : Nat), Aside0 (laws_eqVer.j1 kq a4 a5 a6 a0 a9 b0 b1 a1 = some r) ∧ Aside0 (kq ≤ f8) ∧ Aside0 (wc.heap[d5]? = some (.cells #[.int .i64 a4, .int .i64 a5, .int .i64 a6, (.slice a7 a0.length a8)] 41 (0, 0))) ∧ Aside0 (wc.heap[d6]? = some (.cells #[.int .i64 a9, .int .i64 b0, .int .i64 b1, (.slice b2 a1.length b3)] 41 (0, 0))) ∧ Aside0 (Below w.heap.size w wc))
   case first =>
    have H := c4.out; clear c4; replace H := zI1 H
    rcases H with ⟨b5, H⟩ | ⟨b5, H⟩
    ·have b6 := beq_iff_eq.mpr b5; have f3 := bne_eq_false_iff_eq.mpr b5; clear b5
     (first | rw [b6] | (simp only [i64_w, i32_w]; rw [b6]) | skip)
     have H' := zA H; clear H
     go_wp2
     go_meet
     case rel => exact ⟨_, (by first | exact H' | (subst_vars; exact H')), ⟨by have := f7.out; first | omega | exact Nat.le_refl _⟩, ⟨zK a2.out⟩, ⟨zK a3.out⟩, ⟨zW HB.out⟩⟩
    have b6 := beq_eq_false_iff_ne.mpr b5; have f3 := bne_iff_ne.mpr b5
    (first | rw [b6] | (simp only [i64_w, i32_w]; rw [b6]) | skip)
    obtain rfl := zm H
    go_wp2
    go_ret
    exact ⟨zE, zW HB.out⟩
   case rest =>
    clear c4
    try clear c1
    try clear c2
    try clear p2
    try clear c6
    try clear c9
    try clear b4
    try clear c3
    try clear c11
    try clear b5
    try clear b6
    try clear f3
    try clear f9 g0 g1 g2 g3 g4 g5 g6
    try clear g7 g8 g9 h0 h1 h2 h3 h4
    try clear d7 d8 d9 e0 e1 e2 e3 e4
    try clear e5 e6 e7 e8 e9 f0 f1 f2
    try clear p2
    obtain ⟨kq, HA, i6, a2, a3, HB⟩ := hcut
    cases kq with
    | zero => exact absurd HA.out (by simp [laws_eqVer.j1])
    | succ f4 =>
     have H := HA.out; clear HA; simp only [laws_eqVer.j1] at H; replace H := zI1 H
     rcases H with ⟨b7, H⟩ | ⟨b7, H⟩
     ·have h5 := beq_iff_eq.mpr b7; have h6 := bne_eq_false_iff_eq.mpr b7; clear b7; replace H := Option.bind_eq_some_iff.mp H; obtain ⟨i7, f5, H⟩ := H
      try dsimp only at H
      have f6 := zA f5; clear f5; replace H := zB0 H
      rcases H with ⟨rfl, H⟩ | ⟨rfl, H⟩
      ·obtain rfl := zm H; have i8 := b8.out; have i9 := b9.out; obtain ⟨j2, j3, j4, j5, j6, j7, j8, j9⟩ := ze4 a2.out; obtain ⟨k0, k1, k2, k3, k4, k5, k6, k7⟩ := ze4 a3.out
       go_wp2_with (first | ((with_reducible refine zq 45 ?_); refine zg (some 24) Try.func45 #[.slice a7 a0.length a8, .slice b2 a1.length b3] ?_; (with_reducible refine (laws_eqStringS.calls f4 _ _ a0 _ _ a1 true _ ?s1 ?s2 ?s3 ?s4 f6.out).mono ?_); (case s1 => exact zC (Kd.C_below d1.out HB.out)); (case s2 => exact d2.out); (case s3 => exact zC (Kd.C_below d3.out HB.out)); (case s4 => exact d4.out); rintro e w' ⟨rfl, ⟨nd, rfl⟩⟩; refine ⟨_, rfl, ?_⟩))
       go_ret
       exact ⟨zE, zW HB.out⟩
      obtain rfl := zm H; have k8 := b8.out; have k9 := b9.out; obtain ⟨l0, l1, l2, l3, l4, l5, l6, l7⟩ := ze4 a2.out; obtain ⟨l8, l9, m0, m1, m2, m3, m4, m5⟩ := ze4 a3.out
      go_wp2_with (first | ((with_reducible refine zq 45 ?_); refine zg (some 24) Try.func45 #[.slice a7 a0.length a8, .slice b2 a1.length b3] ?_; (with_reducible refine (laws_eqStringS.calls f4 _ _ a0 _ _ a1 false _ ?s1 ?s2 ?s3 ?s4 f6.out).mono ?_); (case s1 => exact zC (Kd.C_below d1.out HB.out)); (case s2 => exact d2.out); (case s3 => exact zC (Kd.C_below d3.out HB.out)); (case s4 => exact d4.out); rintro e w' ⟨rfl, ⟨nd, rfl⟩⟩; refine ⟨_, rfl, ?_⟩))
      go_ret
      exact ⟨zE, zW HB.out⟩
     have h5 := beq_eq_false_iff_ne.mpr b7; have h6 := bne_iff_ne.mpr b7; obtain rfl := zm H; have m6 := b8.out; have m7 := b9.out; obtain ⟨m8, m9, n0, n1, n2, n3, n4, n5⟩ := ze4 a2.out; obtain ⟨n6, n7, n8, n9, o0, o1, o2, o3⟩ := ze4 a3.out
     go_wp2
     go_ret
     exact ⟨zE, zW HB.out⟩
/-! ### laws_eqNeed: function 83 -/
def laws_eqNeed.f (a0 a1 a2 a3 : ByteArray) : Option (Bool) := if a0.toList = a2.toList then (if a1.toList = a3.toList then (some true) else (some false)) else (some false)
theorem laws_eqNeed.calls (a3 a4 a5 a6 : ByteArray) (r : Bool) (w : World) (h : laws_eqNeed.f a3 a4 a5 a6 = some r) :
  Calls Try.prog 83 #[.agg #[.string a3, .string a4], .agg #[.string a5, .string a6]] w fun e w' => e = .returned (.bool r) ∧ Below w.heap.size w w' := by
 have b2 := Try.underlying94
 have HB := zA (Below.refl w.heap.size w)
 unfold laws_eqNeed.f at h
 have H := h
 clear h
 go_enter Try.func83, Try.ntmps83
 go_upto_if 9 with (first | ((with_reducible refine zd 2 ?_); refine ze 2 94 #[.string a3, .string a4] ?_; intro b3 hg w5 hbox hb; have a0 := zA (hbox); have b4 := zi HB hg; have b5 := zi HB hg; replace HB := zA (below_step (zB) hb); clear hb hbox hg) | ((with_reducible refine zd 3 ?_); refine ze 3 94 #[.string a5, .string a6] ?_; intro b6 hg w6 hbox hb; have a9 := zA (hbox); have b7 := zi HB hg; have b8 := zi HB hg; replace HB := zh HB hb; have b0 := zA (zL hg (zK a0.out)); have b1 := zA (zJ hg (zK a0.out)); replace a0 := zb a0 hb; clear hb hbox hg; have b9 := b0.out; have c0 := b1.out; obtain ⟨c1, c2, c5, c6⟩ := ze2 a0.out; obtain ⟨c7, c8, c9, d0⟩ := ze2 a9.out))
 (try simp only [Act.put, zT])
 replace H := zI1 H
 rcases H with ⟨c3, H⟩ | ⟨c3, H⟩
 ·have a1 := beq_iff_eq.mpr c3; have a2 := bne_eq_false_iff_eq.mpr c3; clear c3; replace H := zI1 H
  rcases H with ⟨c4, H⟩ | ⟨c4, H⟩
  ·have a7 := beq_iff_eq.mpr c4; have a8 := bne_eq_false_iff_eq.mpr c4; clear c4; obtain rfl := zm H
   (try simp only [a1, a2, a7, a8])
   go_wp2
   go_ret
   exact ⟨zE, zW HB.out⟩
  have a7 := beq_eq_false_iff_ne.mpr c4; have a8 := bne_iff_ne.mpr c4; obtain rfl := zm H
  (try simp only [a1, a2, a7, a8])
  go_wp2
  go_ret
  exact ⟨zE, zW HB.out⟩
 have a1 := beq_eq_false_iff_ne.mpr c3
 have a2 := bne_iff_ne.mpr c3
 obtain rfl := zm H
 (try simp only [a1, a2])
 go_wp2
 go_ret
 exact ⟨zE, zW HB.out⟩
end Go.Proofs.Ytbaeljcnbkeipaa.PGC
