/- The walks of the functions that these laws reach, and what each comes to: printed by this session's program. -/
import Derived.Test.YtglhniiabhknoaaDoorZGAPGAx0
import Derived.Test.YtglhniiabhknoaaDoorZGASays
namespace Go.Proofs.YtglhniiabhknoaaDoor.PGA
open Go.RowKit YtglhniiabhknoaaDoorW.PrintWords YtglhniiabhknoaaDoorW.PrintLast YtglhniiabhknoaaDoorW.PrintMore
attribute [local go_sem high] Mine.str_gtr Mine.str_leq Mine.str_geq
attribute [local go_sem] max2_int min2_int max_two min_two max_three min_three max_four min_four   -- for this text's walks alone
set_option linter.unusedVariables false
set_option maxHeartbeats 8000000
set_option maxRecDepth 100000
set_option linter.unusedSimpArgs false
/-! ### laws_toStringS: function 14 -/
def laws_toStringS.l0 : Nat → List ByteArray → List ByteArray → Int → Option (List ByteArray)
 | 0, _, _, _ => none
 | k + 1, x0, x3, x4 => if x4 < (x0.length : Int) then (if 0 ≤ x4 then (if x4 < (x3.length : Int) then (laws_toStringS.l0 k x0 (x3.set (x4 : Int).toNat (rdOf ByteArray.empty x0 x4)) (wrap64 (x4 + 1))) else (none)) else (none)) else (some x3)
def laws_toStringS.f (k : Nat) (l0 : List ByteArray) : Option (List ByteArray) := if 0 ≤ (l0.length : Int) then (if ((l0.length : Int) : Int).toNat ≤ 17592186044416 then (laws_toStringS.l0 k l0 (List.replicate ((l0.length : Int) : Int).toNat (⟨#[]⟩ : ByteArray)) 0) else (none)) else (none)
theorem laws_toStringS.calls (k : Nat) (A0 : Option Addr) (c0 : Nat) (l0 r : List ByteArray) (w : World) (b2 : Kd.C Kd.string w A0 l0.length l0) (b3 : l0.length ≤ c0) (h : laws_toStringS.f k l0 = some r) :
  Calls Tryd.prog 14 #[.slice A0 l0.length c0] w fun e w' => ∃ b4 : Value, e = .returned (b4) ∧ Kd.R Kd.string 9 w' w.heap.size (fun _ => True) b4 r ∧ Below w.heap.size w w' := by
 have c6 := zA b2
 have d9 := zA b3
 clear b2 b3
 have HB := zA (Below.refl w.heap.size w)
 unfold laws_toStringS.f at h
 have H := h
 clear h
 replace H := zC0 H
 obtain ⟨c2, H⟩ := H
 have c7 := eq_true c2
 have c8 := decide_eq_true c2
 clear c2
 replace H := zC0 H
 obtain ⟨c3, H⟩ := H
 have c9 := eq_true c3
 have d0 := decide_eq_true c3
 clear c3
 obtain ⟨b5, a4⟩ : ∃ y_ : List ByteArray, y_ = (List.replicate ((l0.length : Int) : Int).toNat (⟨#[]⟩ : ByteArray)) := ⟨_, rfl⟩
 replace H : (laws_toStringS.l0 k l0 b5 0) = some r := zY a4 H
 have b6 := zA a4
 clear a4
 have H' := zA H
 clear H
 go_enter Tryd.func14, Tryd.ntmps14
 go_wp2_with (first | ((with_reducible refine gate_dst (N := 7) rfl ?_); refine Kd.R_make Kd.string _ 9 rfl (N := 7) rfl 23 _ _ rfl (l0.length : Int) rfl rfl Tryd.underlying23 (.string ⟨#[]⟩) 16 info9 rfl (by decide) (by omega) (⟨#[]⟩ : ByteArray) (ok := fun _ => True) (okp := fun _ => True) rfl (fun _ hk => hk) trivial (zD) (Nat.le_trans (Nat.mul_le_mul_right _ (zD : (l0.length : Int).toNat ≤ 17592186044416)) (by omega)) (Below.refl _ _) (Nat.le_refl _) ?_; intro d1 w4 a3 hb hg_ hnew_; clear hg_ hnew_; (first | rw [← b6.out] at a3 | (simp only [Int.reduceToNat] at a3; rw [← b6.out] at a3)); have d2 := zA (Kd.R_lower a3 (below_size (zB))); replace HB := zA (below_step (zB) hb); clear hb a3))
 go_loopg [4] k (fun kq v4 w' => ∃ (a1 : List ByteArray) (a0 : Int), v4 = .int .i64 a0 ∧ Aside0 (laws_toStringS.l0 kq l0 a1 a0 = some r) ∧ Aside0 (kq ≤ k) ∧ Aside0 (Kd.R Kd.string 9 w' w.heap.size (fun _ => True) d1 a1) ∧ Aside0 (Below w.heap.size w w'))
 case atStart => exact ⟨(b5), (0), zS, H', ⟨Nat.le_refl _⟩, ⟨zR d2.out⟩, ⟨zB⟩⟩
 case round =>
  clear H'
  try clear c1
  try clear c2
  try clear c7
  try clear c8
  try clear p2
  try clear c3
  try clear c9
  try clear d0
  obtain ⟨a1, a0, rfl, HA, b7, a2, HB⟩ := hrel
  cases gk with
  | zero => exact absurd HA.out (by simp [laws_toStringS.l0])
  | succ k1 =>
   have H := HA.out; clear HA; simp only [laws_toStringS.l0] at H; replace H := zI0 H
   rcases H with ⟨d3, H⟩ | ⟨d3, H⟩
   ·replace H := zD0 H; obtain ⟨e0, H⟩ := H; replace H := zD0 H; obtain ⟨e1, H⟩ := H; obtain ⟨a5, a6⟩ : ∃ y_ : List ByteArray, y_ = (a1.set (a0 : Int).toNat (rdOf ByteArray.empty l0 a0)) := ⟨_, rfl⟩; replace H : (laws_toStringS.l0 k1 l0 a5 (wrap64 (a0 + 1))) = some r := zY a6 H; have d4 := zA a6; clear a6; have H' := zA H; clear H; have a7 : 0 ≤ (a0 : Int) := zD; have a8 : a0 < (l0.length : Int) := zD; obtain ⟨e2, d5, b8⟩ := Kd.at_string c6.out a0 a7 a8; cases d5; replace b8 := zx HB b8; replace a7 := eq_true a7; replace a8 := eq_true a8; have p9 : 0 ≤ (a0 : Int) := zD; have q9 : (a0 : Int) < ((a1.length : Int) : Int) := zD; obtain ⟨a9, d6, b9, c4, d7, e3, c5⟩ := Kd.R_form a2.out (by omega)
    (first | cases b9 | (injection b9 with ea_ en_ ec_; (first | subst ea_ | (injection ea_ with ea_; subst ea_)); subst ec_; clear en_))
    have d8 := zA c4; have e4 := zA c5; clear c4 d7 c5; obtain ⟨e5, e6⟩ := Kd.R_celln (⟨#[]⟩ : ByteArray) a2.out (a0 : Int) p9 q9; replace p9 := eq_true p9; replace q9 := eq_true q9; have b0 := Kd.R_putg a2.out (a0 : Int) (rdOf ByteArray.empty l0 a0)
    go_wp2_with (first | ((with_reducible refine gate_store (t := 9) (p := 20) rfl ?_); refine store_event (t := 9) (p := 20) (v := ?vo_w11) (w1 := (wr.setCell ⟨a9, (a0 : Int).toNat, none⟩ (.string (rdOf ByteArray.empty l0 a0)))) ?hg ?ho ?hn ?hr ?_; (case ho => rfl); (case hg => rfl); (case hn => rfl); (case hr => first | (go_simp; done) | (go_simp; rfl)); intro b1 hw; have hg : wr.grownBy b1 (some a9) := (by rw [hw]; exact b0.2); have hp_ : Kd.R Kd.string 9 b1 w.heap.size (fun _ => True) (.slice (some ⟨a9, 0, none⟩) a1.length d6) a5 := (by rw [hw, d4.out]; exact b0.1); clear b0; replace a2 := zA (hp_); replace HB := zA ((by rw [hw]; exact below_set (HB.out) d8.out : Below w.heap.size w b1)); clear hg hw hp_))
    go_roundg k1
    case measure => have := b7.out; omega
    case rel => exact ⟨(a5), (wrap64 (a0 + 1)), zS, H', ⟨by have := b7.out; omega⟩, ⟨zR a2.out⟩, ⟨zB⟩⟩
   obtain rfl := zm H
   go_wp2
   go_ret
   exact ⟨_, zE, zR a2.out, zB⟩
class laws_toVal.Rec where
 f : Nat → Int → Int → ByteArray → List (S25) → List ByteArray → Option (Int × Int × ByteArray × (List (S30)) × List ByteArray)
class laws_toVal.Rec.Ok [laws_toVal.Rec] : Prop where
 calls : ∀ (k : Nat) (a3 : Int) (a4 : Int) (a5 : ByteArray) (a6 : Option Addr) (a7 : Nat) (a0 : List (S25)) (a8 : Option Addr) (a9 : Nat) (a1 : List ByteArray) (r1 : Int) (r2 : Int) (r3 : ByteArray) (r4 : List (S30)) (r5 : List ByteArray) (w : World) (b1 : Kd.C k25 w a6 a0.length a0) (b2 : a0.length ≤ a7) (b3 : Kd.C Kd.string w a8 a1.length a1) (b4 : a1.length ≤ a9) (h : laws_toVal.Rec.f k a3 a4 a5 a0 a1 = some (r1, r2, r3, r4, r5)),
  Calls Tryd.prog 6 #[.agg #[.int .i64 a3, .int .i64 a4, .string a5, .slice a6 a0.length a7, .slice a8 a1.length a9]] w fun e w' => ∃ b0 a2 : Value, e = .returned (.agg #[.int .i64 r1, .int .i64 r2, .string r3, b0, a2]) ∧ Kd.R k30 30 w' w.heap.size (fun k_ => some k_ ≠ (a2 : Value).ownBlock) b0 r4 ∧ Kd.R Kd.string 9 w' w.heap.size (fun _ => True) a2 r5 ∧ Below w.heap.size w w'
theorem laws_toVal.Rec.calls [laws_toVal.Rec] [o : laws_toVal.Rec.Ok] : ∀ (k : Nat) (a3 a4 : Int) (a5 : ByteArray) (a6 : Option Addr) (a7 : Nat) (a0 : List (S25)) (a8 : Option Addr) (a9 : Nat) (a1 : List ByteArray) (r1 r2 : Int) (r3 : ByteArray) (r4 : List (S30)) (r5 : List ByteArray) (w : World) (b1 : Kd.C k25 w a6 a0.length a0) (b2 : a0.length ≤ a7) (b3 : Kd.C Kd.string w a8 a1.length a1) (b4 : a1.length ≤ a9) (h : laws_toVal.Rec.f k a3 a4 a5 a0 a1 = some (r1, r2, r3, r4, r5)),
  Calls Tryd.prog 6 #[.agg #[.int .i64 a3, .int .i64 a4, .string a5, .slice a6 a0.length a7, .slice a8 a1.length a9]] w fun e w' => ∃ b0 a2 : Value, e = .returned (.agg #[.int .i64 r1, .int .i64 r2, .string r3, b0, a2]) ∧ Kd.R k30 30 w' w.heap.size (fun k_ => some k_ ≠ (a2 : Value).ownBlock) b0 r4 ∧ Kd.R Kd.string 9 w' w.heap.size (fun _ => True) a2 r5 ∧ Below w.heap.size w w' := o.calls
section
set_option linter.unusedSectionVars false
variable [laws_toVal.Rec] [laws_toVal.Rec.Ok]
/-! ### laws_toValS: function 13 -/
def laws_toValS.l0 : Nat → List (S25) → List (S30) → Int → Option ((List (S30)))
 | 0, _, _, _ => none
 | k + 1, x0, x3, x4 => if x4 < (x0.length : Int) then (if 0 ≤ x4 then ((laws_toVal.Rec.f k ((rd_T25 x0 x4).f0) ((rd_T25 x0 x4).f1) ((rd_T25 x0 x4).f2) ((rd_T25 x0 x4).f3) ((rd_T25 x0 x4).f4)).bind fun a0 => (if x4 < (x3.length : Int) then (laws_toValS.l0 k x0 (x3.set (x4 : Int).toNat (⟨a0.1, a0.2.1, a0.2.2.1, a0.2.2.2.1, a0.2.2.2.2⟩ : S30)) (wrap64 (x4 + 1))) else (none))) else (none)) else (some x3)
def laws_toValS.f (k : Nat) (l0 : List (S25)) : Option ((List (S30))) := if 0 ≤ (l0.length : Int) then (if ((l0.length : Int) : Int).toNat ≤ 3518437208883 then (laws_toValS.l0 k l0 (List.replicate ((l0.length : Int) : Int).toNat z30) 0) else (none)) else (none)
theorem laws_toValS.calls (k : Nat) (A0 : Option Addr) (c0 : Nat) (l0 : List (S25)) (r : List (S30)) (w : World) (d5 : Kd.C k25 w A0 l0.length l0) (d6 : l0.length ≤ c0) (h : laws_toValS.f k l0 = some r) :
  Calls Tryd.prog 13 #[.slice A0 l0.length c0] w fun e w' => ∃ d7 : Value, e = .returned (d7) ∧ Kd.R k30 30 w' w.heap.size (fun _ => True) d7 r ∧ Below w.heap.size w w' := by
 have j6 := Tryd.underlying25
 have j7 := Tryd.underlying30
 have g4 := zA d5
 have j8 := zA d6
 clear d5 d6
 have HB := zA (Below.refl w.heap.size w)
 unfold laws_toValS.f at h
 have H := h
 clear h
 replace H := zC0 H
 obtain ⟨c2, H⟩ := H
 have g5 := eq_true c2
 have g6 := decide_eq_true c2
 clear c2
 replace H := zC0 H
 obtain ⟨c3, H⟩ := H
 have g7 := eq_true c3
 have g8 := decide_eq_true c3
 clear c3
 obtain ⟨d8, b6⟩ : ∃ y_ : List (S30), y_ = (List.replicate ((l0.length : Int) : Int).toNat z30) := ⟨_, rfl⟩
 replace H : (laws_toValS.l0 k l0 d8 0) = some r := zY b6 H
 have d9 := zA b6
 clear b6
 have H' := zA H
 clear H
 go_enter Tryd.func13, Tryd.ntmps13
 go_wp2_with (first | ((with_reducible refine gate_dst (N := 7) rfl ?_); refine Kd.R_make k30 _ 30 rfl (N := 7) rfl 28 _ _ rfl (l0.length : Int) rfl rfl Tryd.underlying28 (.agg #[(.int .i64 0), (.int .i64 0), (.string ⟨#[]⟩), (.slice none 0 0), (.slice none 0 0)]) 80 info30 rfl (by decide) (by omega) z30 (ok := fun _ => True) (okp := fun _ => True) (k30_mkM _ _ _ z30 (Kd.R_nil _ _ _ _ _) (Kd.R_nil _ _ _ _ _)) (fun _ hk => hk) trivial (zD) (Nat.le_trans (Nat.mul_le_mul_right _ (zD : (l0.length : Int).toNat ≤ 3518437208883)) (by omega)) (Below.refl _ _) (Nat.le_refl _) ?_; intro g9 w4 b2 hb hg_ hnew_; clear hg_ hnew_; (first | rw [← d9.out] at b2 | (simp only [Int.reduceToNat] at b2; rw [← d9.out] at b2)); have h0 := zA (Kd.R_lower b2 (below_size (zB))); replace HB := zA (below_step (zB) hb); clear hb b2))
 go_loopg [4] k (fun kq v4 w' => ∃ (a3 : List (S30)) (a0 : Int), v4 = .int .i64 a0 ∧ Aside0 (laws_toValS.l0 kq l0 a3 a0 = some r) ∧ Aside0 (kq ≤ k) ∧ Aside0 (Kd.R k30 30 w' w.heap.size (fun _ => True) g9 a3) ∧ Aside0 (Below w.heap.size w w'))
 case atStart => exact ⟨(d8), (0), zS, H', ⟨Nat.le_refl _⟩, ⟨zR h0.out⟩, ⟨zB⟩⟩
 case round =>
  clear H'
  try clear c1
  try clear c2
  try clear g5
  try clear g6
  try clear p2
  try clear c3
  try clear g7
  try clear g8
  obtain ⟨a3, a0, rfl, HA, e0, a2, HB⟩ := hrel
  cases gk with
  | zero => exact absurd HA.out (by simp [laws_toValS.l0])
  | succ k1 =>
   have H := HA.out; clear HA; simp only [laws_toValS.l0] at H; replace H := zI0 H
   rcases H with ⟨h1, H⟩ | ⟨h1, H⟩
   ·replace H := zD0 H; obtain ⟨j9, H⟩ := H; replace H := Option.bind_eq_some_iff.mp H; obtain ⟨⟨a6, a7, a8, b4, b5⟩, e1, H⟩ := H
    try dsimp only at H
    have A8 := zA e1; clear e1; replace H := zD0 H; obtain ⟨k0, H⟩ := H; obtain ⟨b7, b8⟩ : ∃ y_ : List (S30), y_ = (a3.set (a0 : Int).toNat (⟨a6, a7, a8, b4, b5⟩ : S30)) := ⟨_, rfl⟩; replace H : (laws_toValS.l0 k1 l0 b7 (wrap64 (a0 + 1))) = some r := zY b8 H; have h2 := zA b8; clear b8; have H' := zA H; clear H; have b9 : 0 ≤ (a0 : Int) := zD; have c4 : a0 < (l0.length : Int) := zD; obtain ⟨k2, h3, h4, h5, h6, h7, e2, e3, e4, e5, e6, e7, e8, e9, f5⟩ := at_T25 g4.out a0 b9 c4; cases h7; replace e2 := zx HB e2; replace e3 := zx HB e3; replace e4 := zx HB e4; replace e5 := zx HB e5; replace e6 := zx HB e6; have h8 := zA e8; have h9 := zA e7; clear e8 e7; have i0 := zA f5; have i1 := zA e9; clear f5 e9; replace b9 := eq_true b9; replace c4 := eq_true c4
    go_wp2_with (first | ((with_reducible refine zq 6 ?_); refine zg (some 20) Tryd.func6 #[.agg #[.int .i64 ((rd_T25 l0 a0).f0), .int .i64 ((rd_T25 l0 a0).f1), .string ((rd_T25 l0 a0).f2), .slice h3 ((rd_T25 l0 a0).f3).length h4, .slice h5 ((rd_T25 l0 a0).f4).length h6]] ?_; (with_reducible refine (laws_toVal.Rec.calls k1 ((rd_T25 l0 a0).f0) ((rd_T25 l0 a0).f1) ((rd_T25 l0 a0).f2) _ _ ((rd_T25 l0 a0).f3) _ _ ((rd_T25 l0 a0).f4) a6 a7 a8 b4 b5 _ ?s1 ?s2 ?s3 ?s4 A8.out).mono ?_); (case s1 => exact zC (Kd.C_below h8.out HB.out)); (case s2 => exact h9.out); (case s3 => exact zC (Kd.C_below i0.out HB.out)); (case s4 => exact i1.out); rintro e a4 ⟨c5, c6, rfl, c7, c8, hb⟩; refine ⟨_, rfl, ?_⟩; have c9 := zA (Kd.R_lower (Kd.R_new' c7 (Kd.R_lt (zR a2.out))) (below_size (zB))); replace a2 := zA (Kd.R_mono (Kd.R_told (Kd.R_told (Kd.R_old (zR a2.out) hb) (Kd.R_base c7)) (Kd.R_base c8)) (fun _ h_ => h_.1)); have d0 := zA (Kd.R_lower c8 (below_size (zB))); replace HB := zA (below_step (zB) hb); (try clear hb c7 c8); have d1 : 0 ≤ (a0 : Int) := zD; have d2 : (a0 : Int) < ((a3.length : Int) : Int) := zD; obtain ⟨a1, f6, f7, f8, i2, k3, f9⟩ := Kd.R_form a2.out (by omega); (first | cases f7 | (injection f7 with ea_ en_ ec_; (first | subst ea_ | (injection ea_ with ea_; subst ea_)); subst ec_; clear en_)); have b3 := zA f8; have k4 := zA f9; clear f8 i2 f9; obtain ⟨k5, i3, g0, a9, b0⟩ := Kd.R_elem a2.out z30 (a0 : Int) d1 d2; obtain ⟨i4, i5, rfl, k6, k7⟩ := k30_openM g0; have k8 : a4.cell? ⟨a1, (a0 : Int).toNat * 5, none⟩ = some (.int .i64 ((rd_T30 a3 a0).f0)) := a9 0 _ rfl; have k9 : a4.cell? ⟨a1, (a0 : Int).toNat * 5 + 1, none⟩ = some (.int .i64 ((rd_T30 a3 a0).f1)) := a9 1 _ rfl; have l1 : a4.cell? ⟨a1, (a0 : Int).toNat * 5 + 2, none⟩ = some (.string ((rd_T30 a3 a0).f2)) := a9 2 _ rfl; have l2 : a4.cell? ⟨a1, (a0 : Int).toNat * 5 + 3, none⟩ = some (i4) := a9 3 _ rfl; have l3 : a4.cell? ⟨a1, (a0 : Int).toNat * 5 + 4, none⟩ = some (i5) := a9 4 _ rfl; have l4 : a4.frozen? ⟨a1, (a0 : Int).toNat * 5, none⟩ = false := b0 0; have l5 : a4.frozen? ⟨a1, (a0 : Int).toNat * 5 + 1, none⟩ = false := b0 1; have l6 : a4.frozen? ⟨a1, (a0 : Int).toNat * 5 + 2, none⟩ = false := b0 2; have l7 : a4.frozen? ⟨a1, (a0 : Int).toNat * 5 + 3, none⟩ = false := b0 3; have l8 : a4.frozen? ⟨a1, (a0 : Int).toNat * 5 + 4, none⟩ = false := b0 4; clear i3 a9 b0; (try clear g0); replace d1 := eq_true d1; replace d2 := eq_true d2; have n_ := zA (Kd.R_mono (ok' := (fun k_ => some k_ ≠ (c5 : Value).ownBlock ∧ some k_ ≠ (c6 : Value).ownBlock)) a2.out (fun k_ hk => ⟨hk.1.2, hk.2⟩)); clear a2; have a2 := n_; clear n_; have g1 := zA (show Kd.R k30 30 a4 w.heap.size (fun _ => True) (.slice (some ⟨a1, 0, none⟩) a3.length f6) a3 from (zR (Kd.R_mono a2.out (fun _ hk => trivial)))); obtain ⟨l9, g2, g3, a5, b1⟩ := Kd.R_elem g1.out z30 (a0 : Int) (zD) (by have h_ : (a0 : Int) < ((a3.length : Int) : Int) := zD; first | exact h_ | (have e_ := (Kd.R_reads' a2.out).1; omega) | simpa using h_); obtain ⟨m0, m1, rfl, m2, m3⟩ := k30_openM g3; have d3 := Kd.R_seg g1.out (a0 : Int) (zD) (by have h_ : (a0 : Int) < ((a3.length : Int) : Int) := zD; first | exact h_ | (have e_ := (Kd.R_reads' a2.out).1; omega) | simpa using h_) (seg := [.int .i64 a6, .int .i64 a7, .string a8, c5, c6]) (j := 0) g2 a5 (show 5 ≤ 5 from by decide) (x' := (⟨a6, a7, a8, b4, b5⟩ : S30)) (k30_mkM _ _ _ (⟨a6, a7, a8, b4, b5⟩ : S30) (Kd.R_mono (c9.out) (fun k_ hk => ⟨trivial, fun e_ => (hk.2) (by rw [e_]; rfl)⟩)) (Kd.R_mono (Kd.R_apart' (d0.out) (Kd.R_typed a2.out) (by decide)) (fun k_ hk => ⟨trivial, fun e_ => (hk.2) (by rw [e_]; rfl)⟩))) (fun _ hk => hk); have i6 := a5 0 _ rfl; (try simp only [show (k30).sz = 5 from rfl, Nat.mul_one, Nat.add_zero] at i6); have i7 := b1 0; (try simp only [show (k30).sz = 5 from rfl, Nat.mul_one, Nat.add_zero] at i7); have i8 := a5 1 _ rfl; (try simp only [show (k30).sz = 5 from rfl, Nat.mul_one, Nat.add_zero] at i8); have i9 := b1 1; (try simp only [show (k30).sz = 5 from rfl, Nat.mul_one, Nat.add_zero] at i9); have j0 := a5 2 _ rfl; (try simp only [show (k30).sz = 5 from rfl, Nat.mul_one, Nat.add_zero] at j0); have j1 := b1 2; (try simp only [show (k30).sz = 5 from rfl, Nat.mul_one, Nat.add_zero] at j1); have j2 := a5 3 _ rfl; (try simp only [show (k30).sz = 5 from rfl, Nat.mul_one, Nat.add_zero] at j2); have j3 := b1 3; (try simp only [show (k30).sz = 5 from rfl, Nat.mul_one, Nat.add_zero] at j3); have j4 := a5 4 _ rfl; (try simp only [show (k30).sz = 5 from rfl, Nat.mul_one, Nat.add_zero] at j4); have j5 := b1 4; (try simp only [show (k30).sz = 5 from rfl, Nat.mul_one, Nat.add_zero] at j5); clear g2 a5 b1; (try clear g3)) | ((with_reducible refine gate_store (t := 30) (p := 21) rfl ?_); refine store_event (t := 30) (p := 21) (v := ?vo_w13) (w1 := (((((a4.setCell ⟨a1, (a0 : Int).toNat * 5, none⟩ (.int .i64 a6)).setCell ⟨a1, (a0 : Int).toNat * 5 + 1, none⟩ (.int .i64 a7)).setCell ⟨a1, (a0 : Int).toNat * 5 + 2, none⟩ (.string a8)).setCell ⟨a1, (a0 : Int).toNat * 5 + 3, none⟩ (c5)).setCell ⟨a1, (a0 : Int).toNat * 5 + 4, none⟩ (c6))) ?hg ?ho ?hn ?hr ?_; (case ho => rfl); (case hg => rfl); (case hn => rfl); (case hr => first | (go_simp; done) | (go_simp; rfl) | ((try (obtain ⟨_, _, e_⟩ := Kd.R_slice c9.out; subst e_)); (try (obtain ⟨_, _, e_⟩ := Kd.R_slice d0.out; subst e_)); first | (go_simp; done) | (go_simp; rfl))); intro d4 hw; have hg : a4.grownBy d4 (some a1) := (by rw [hw]; exact d3.2); have hp_ : Kd.R k30 30 d4 w.heap.size (fun _ => True) (.slice (some ⟨a1, 0, none⟩) a3.length f6) b7 := (by rw [hw, h2.out]; exact d3.1); clear d3; replace a2 := zA (hp_); replace HB := zA ((by rw [hw]; exact below_set (below_set (below_set (below_set (below_set (HB.out) b3.out) b3.out) b3.out) b3.out) b3.out : Below w.heap.size w d4)); clear c9 d0; clear hg hw hp_))
    go_roundg k1
    case measure => have := e0.out; omega
    case rel => exact ⟨(b7), (wrap64 (a0 + 1)), zS, H', ⟨by have := e0.out; omega⟩, ⟨zR a2.out⟩, ⟨zB⟩⟩
   obtain rfl := zm H
   go_wp2
   go_ret
   exact ⟨_, zE, zR a2.out, zB⟩
end
/-! ### laws_toVal: function 6 -/
def laws_toVal.f : Nat → Int → Int → ByteArray → List (S25) → List ByteArray → Option (Int × Int × ByteArray × (List (S30)) × List ByteArray)
 | 0, _, _, _, _, _ => none
 | k + 1, a0, a1, a2, a3, a4 => (@laws_toValS.f ⟨fun _ => laws_toVal.f k⟩ k a3).bind fun a5 => ((laws_toStringS.f k a4).bind fun a6 => (some (a0, a1, a2, a5, a6)))
theorem laws_toVal.calls (k : Nat) : ∀ (a0 a1 : Int) (a3 : ByteArray) (b5 : Option Addr) (b6 : Nat) (a6 : List (S25)) (b7 : Option Addr) (b8 : Nat) (a7 : List ByteArray) (r1 r2 : Int) (r3 : ByteArray) (r4 : List (S30)) (r5 : List ByteArray) (w : World) (c2 : Kd.C k25 w b5 a6.length a6) (c3 : a6.length ≤ b6) (c4 : Kd.C Kd.string w b7 a7.length a7) (c5 : a7.length ≤ b8) (h : laws_toVal.f k a0 a1 a3 a6 a7 = some (r1, r2, r3, r4, r5)),
  Calls Tryd.prog 6 #[.agg #[.int .i64 a0, .int .i64 a1, .string a3, .slice b5 a6.length b6, .slice b7 a7.length b8]] w fun e w' => ∃ c7 c6 : Value, e = .returned (.agg #[.int .i64 r1, .int .i64 r2, .string r3, c7, c6]) ∧ Kd.R k30 30 w' w.heap.size (fun k_ => some k_ ≠ (c6 : Value).ownBlock) c7 r4 ∧ Kd.R Kd.string 9 w' w.heap.size (fun _ => True) c6 r5 ∧ Below w.heap.size w w' := by
 induction k using Nat.strongRecOn with
 | _ k ih =>
 intro a0 a1 a3 b5 b6 a6 b7 b8 a7 r1 r2 r3 r4 r5 w c2 c3 c4 c5 h
 cases k with
 | zero => exact absurd h (by simp [laws_toVal.f])
 | succ k =>
 simp only [laws_toVal.f] at h
 have e3 := Tryd.underlying25
 have e4 := Tryd.underlying30
 have d2 := zA c2
 have d3 := zA c3
 clear c2 c3
 have d4 := zA c4
 have d5 := zA c5
 clear c4 c5
 have HB := zA (Below.refl w.heap.size w)
 have H := h
 clear h
 replace H := Option.bind_eq_some_iff.mp H
 obtain ⟨b0, c8, H⟩ := H
 try dsimp only at H
 have A2 := zA c8
 clear c8
 replace H := Option.bind_eq_some_iff.mp H
 obtain ⟨b1, c9, H⟩ := H
 try dsimp only at H
 have A3 := zA c9
 clear c9
 simp only [zU] at H
 obtain ⟨rfl, rfl, rfl, rfl, rfl⟩ := H
 go_enter Tryd.func6, Tryd.ntmps6
 go_wp2_with (first | ((with_reducible refine zd 1 ?_); refine ze 1 25 #[.int .i64 a0, .int .i64 a1, .string a3, .slice b5 a6.length b6, .slice b7 a7.length b8] ?_; intro e5 hg w4 hbox hb; have a2 := zA (hbox); have e6 := zi HB hg; have e7 := zi HB hg; replace HB := zA (below_step (zB) hb); clear hb hbox hg) | ((with_reducible refine zd 2 ?_); refine ze 2 30 #[.int .i64 0, .int .i64 0, .string (⟨#[]⟩ : ByteArray), .slice none 0 0, .slice none 0 0] ?_; intro a4 hg w5 hbox hb; have a5 := zA (hbox); have e8 := zi HB hg; have e9 := zi HB hg; replace HB := zh HB hb; have d6 := zA (zL hg (zK a2.out)); have d7 := zA (zJ hg (zK a2.out)); replace a2 := zb a2 hb; clear hb hbox hg) | ((with_reducible refine zd 3 ?_); refine ze 3 30 #[.int .i64 0, .int .i64 0, .string (⟨#[]⟩ : ByteArray), .slice none 0 0, .slice none 0 0] ?_; intro a9 hg w6 hbox hb; have a8 := zA (hbox); have f0 := zi HB hg; have f1 := zi HB hg; replace HB := zh HB hb; have d8 := zA (zL hg (zK a2.out)); have d9 := zA (zJ hg (zK a2.out)); replace a2 := zb a2 hb; have d0 := zA (zL hg (zK a5.out)); have e0 := zA (zJ hg (zK a5.out)); replace a5 := zb a5 hb; clear hb hbox hg; have f2 := d6.out; have f3 := d7.out; have f4 := d8.out; have f5 := d9.out; obtain ⟨f6, f7, f8, f9, g0, g1, g2, g3, g4, g5⟩ := ze5 a2.out; have g6 := e0.out; have g7 := d0.out; obtain ⟨g8, g9, h0, h1, h2, h3, h4, h5, h6, h7⟩ := ze5 a8.out) | ((with_reducible refine zq 13 ?_); refine zg (some 15) Tryd.func13 #[.slice b5 a6.length b6] ?_; (refine (@laws_toValS.calls ⟨fun _ => laws_toVal.f k⟩ (@laws_toVal.Rec.Ok.mk ⟨fun _ => laws_toVal.f k⟩ (fun _ => ih k (by omega))) k _ _ a6 b0 _ ?s1 ?s2 A2.out).mono ?_); (case s1 => exact Kd.C_below d2.out (zW HB.out)); (case s2 => exact d3.out); rintro e h8 ⟨h9, rfl, b2, hb⟩; refine ⟨_, rfl, ?_⟩; have c1 := zA (Kd.R_lower (Kd.R_newB (Kd.R_newB b2 (g := a4) (o := .cells #[.int .i64 0, .int .i64 0, .string (⟨#[]⟩ : ByteArray), .slice none 0 0, .slice none 0 0] 30 (0, 0)) (zK a5.out)) (g := a9) (o := .cells #[.int .i64 a0, .int .i64 a1, .string a3, .slice none 0 0, .slice none 0 0] 30 (0, 0)) (by (with_reducible repeat (first | refine blk_drewN ?_ _ | refine blk_drew ?_ | refine blk_alloc ?_ _)); refine blk_put (cs := #[.int .i64 a0, .int .i64 a1, .string (⟨#[]⟩ : ByteArray), .slice none 0 0, .slice none 0 0]) ?_ 2 _ rfl; (with_reducible repeat (first | refine blk_drewN ?_ _ | refine blk_drew ?_ | refine blk_alloc ?_ _)); refine blk_put (cs := #[.int .i64 a0, .int .i64 0, .string (⟨#[]⟩ : ByteArray), .slice none 0 0, .slice none 0 0]) ?_ 1 _ rfl; (with_reducible repeat (first | refine blk_drewN ?_ _ | refine blk_drew ?_ | refine blk_alloc ?_ _)); refine blk_put (cs := #[.int .i64 0, .int .i64 0, .string (⟨#[]⟩ : ByteArray), .slice none 0 0, .slice none 0 0]) ?_ 0 _ rfl; (with_reducible repeat (first | refine blk_drewN ?_ _ | refine blk_drew ?_ | refine blk_alloc ?_ _)); exact a8.out)) (below_size (zW HB.out))); replace a2 := zb a2 hb; replace a5 := zb a5 hb; replace a8 := zA (blk_below (g := a9) (o := .cells #[.int .i64 a0, .int .i64 a1, .string a3, .slice none 0 0, .slice none 0 0] 30 (0, 0)) (by (with_reducible repeat (first | refine blk_drewN ?_ _ | refine blk_drew ?_ | refine blk_alloc ?_ _)); refine blk_put (cs := #[.int .i64 a0, .int .i64 a1, .string (⟨#[]⟩ : ByteArray), .slice none 0 0, .slice none 0 0]) ?_ 2 _ rfl; (with_reducible repeat (first | refine blk_drewN ?_ _ | refine blk_drew ?_ | refine blk_alloc ?_ _)); refine blk_put (cs := #[.int .i64 a0, .int .i64 0, .string (⟨#[]⟩ : ByteArray), .slice none 0 0, .slice none 0 0]) ?_ 1 _ rfl; (with_reducible repeat (first | refine blk_drewN ?_ _ | refine blk_drew ?_ | refine blk_alloc ?_ _)); refine blk_put (cs := #[.int .i64 0, .int .i64 0, .string (⟨#[]⟩ : ByteArray), .slice none 0 0, .slice none 0 0]) ?_ 0 _ rfl; (with_reducible repeat (first | refine blk_drewN ?_ _ | refine blk_drew ?_ | refine blk_alloc ?_ _)); exact a8.out) hb); replace HB := zh HB hb; (try clear hb b2); obtain ⟨b3, b4, e1⟩ := Kd.R_slice c1.out; subst e1; obtain ⟨i0, i1, i2, i3, i4, i5, i6, i7, i8, i9⟩ := ze5 a8.out; obtain ⟨j0, j1, j2, j3, j4, j5, j6, j7, j8, j9⟩ := ze5 a2.out) | ((with_reducible refine zq 14 ?_); refine zg (some 19) Tryd.func14 #[.slice b7 a7.length b8] ?_; (with_reducible refine (laws_toStringS.calls k _ _ a7 b1 _ ?s1 ?s2 A3.out).mono ?_); (case s1 => exact Kd.C_below d4.out (zW HB.out)); (case s2 => exact d5.out); rintro e k0 ⟨k1, rfl, b2, hb⟩; refine ⟨_, rfl, ?_⟩; replace c1 := zA (Kd.R_elder' (zR (Kd.R_mono (Kd.R_far (p := ⟨a9, 3, none⟩) (Kd.R_mono c1.out (fun k_ hk => (⟨hk, hk.2⟩ : _ ∧ k_ ≠ a9))) (fun _ hk => hk.2) (.slice b3 b0.length b4)) (fun _ h_ => h_.1))) (Kd.R_base b2) hb); have d1 := zA (Kd.R_lower b2 (below_size (zW HB.out))); replace a2 := zb a2 hb; replace a5 := zb a5 hb; replace a8 := zA (blk_below (g := a9) (o := .cells #[.int .i64 a0, .int .i64 a1, .string a3, .slice b3 b0.length b4, .slice none 0 0] 30 (0, 0)) (by (with_reducible repeat (first | refine blk_drewN ?_ _ | refine blk_drew ?_ | refine blk_alloc ?_ _)); refine blk_put (cs := #[.int .i64 a0, .int .i64 a1, .string a3, .slice none 0 0, .slice none 0 0]) ?_ 3 _ rfl; (with_reducible repeat (first | refine blk_drewN ?_ _ | refine blk_drew ?_ | refine blk_alloc ?_ _)); exact a8.out) hb); replace HB := zh HB hb; (try clear hb b2); obtain ⟨b9, c0, e2⟩ := Kd.R_slice d1.out; subst e2; obtain ⟨k2, k3, k4, k5, k6, k7, k8, k9, l0, l1⟩ := ze5 a8.out; obtain ⟨l2, l3, l4, l5, l6, l7, l8, l9, m0, m1⟩ := ze5 a5.out))
 refine bodyPost_ret (results_cell_row rfl _ _ a4 30 #[.int .i64 a0, .int .i64 a1, .string a3, .slice b3 b0.length b4, .slice b9 b1.length c0] (0, 0) _ rfl (by (with_reducible repeat (first | refine blk_drewN ?_ _ | refine blk_drew ?_ | refine blk_alloc ?_ _)); refine blk_put (cs := #[.int .i64 a0, .int .i64 a1, .string a3, .slice b3 b0.length b4, .slice none 0 0]) ?_ 4 _ rfl; (with_reducible repeat (first | refine blk_drewN ?_ _ | refine blk_drew ?_ | refine blk_alloc ?_ _)); refine blk_put (cs := #[.int .i64 a0, .int .i64 a1, .string a3, .slice none 0 0, .slice none 0 0]) ?_ 3 _ rfl; (with_reducible repeat (first | refine blk_drewN ?_ _ | refine blk_drew ?_ | refine blk_alloc ?_ _)); refine blk_put (cs := #[.int .i64 a0, .int .i64 a1, .string (⟨#[]⟩ : ByteArray), .slice none 0 0, .slice none 0 0]) ?_ 2 _ rfl; (with_reducible repeat (first | refine blk_drewN ?_ _ | refine blk_drew ?_ | refine blk_alloc ?_ _)); refine blk_put (cs := #[.int .i64 a0, .int .i64 0, .string (⟨#[]⟩ : ByteArray), .slice none 0 0, .slice none 0 0]) ?_ 1 _ rfl; (with_reducible repeat (first | refine blk_drewN ?_ _ | refine blk_drew ?_ | refine blk_alloc ?_ _)); refine blk_put (cs := #[.int .i64 0, .int .i64 0, .string (⟨#[]⟩ : ByteArray), .slice none 0 0, .slice none 0 0]) ?_ 0 _ rfl; (with_reducible repeat (first | refine blk_drewN ?_ _ | refine blk_drew ?_ | refine blk_alloc ?_ _)); refine blk_far ?_ d0.out _; (with_reducible repeat (first | refine blk_drewN ?_ _ | refine blk_drew ?_ | refine blk_alloc ?_ _)); exact a5.out) Tryd.underlying30 rfl (by kernel_rfl)) rfl ?_
 exact ⟨_, _, zE, zR (Kd.R_mono (Kd.R_far (p := ⟨a4, 4, none⟩) (Kd.R_far (p := ⟨a4, 3, none⟩) (Kd.R_far (p := ⟨a4, 2, none⟩) (Kd.R_far (p := ⟨a4, 1, none⟩) (Kd.R_far (p := ⟨a4, 0, none⟩) (Kd.R_far (p := ⟨a9, 4, none⟩) (Kd.R_mono (Kd.R_mono c1.out (fun k_ hk => (⟨hk, hk.1.2⟩ : _ ∧ k_ ≠ a9))) (fun k_ hk => (⟨hk, hk.1.1.1.2⟩ : _ ∧ k_ ≠ a4))) (fun _ hk => hk.1.2) (.slice b9 b1.length c0)) (fun _ hk => hk.2) (.int .i64 a0)) (fun _ hk => hk.2) (.int .i64 a1)) (fun _ hk => hk.2) (.string a3)) (fun _ hk => hk.2) (.slice b3 b0.length b4)) (fun _ hk => hk.2) (.slice b9 b1.length c0)) (fun _ hk => hk.1.1.2)), zR (Kd.R_mono (Kd.R_far (p := ⟨a4, 4, none⟩) (Kd.R_far (p := ⟨a4, 3, none⟩) (Kd.R_far (p := ⟨a4, 2, none⟩) (Kd.R_far (p := ⟨a4, 1, none⟩) (Kd.R_far (p := ⟨a4, 0, none⟩) (Kd.R_far (p := ⟨a9, 4, none⟩) (Kd.R_types (Kd.R_types d1.out a8.out (by decide)) a5.out (by decide)) (fun _ hk => hk.1.2) (.slice b9 b1.length c0)) (fun _ hk => hk.2) (.int .i64 a0)) (fun _ hk => hk.2) (.int .i64 a1)) (fun _ hk => hk.2) (.string a3)) (fun _ hk => hk.2) (.slice b3 b0.length b4)) (fun _ hk => hk.2) (.slice b9 b1.length c0)) (fun _ hk => trivial)), zW HB.out⟩
/-! ### impl_inRange: function 36 -/
def impl_inRange.f (a0 a1 a2 : Int) : Option (Bool) := if a0 ≥ a1 then (some (decide (a0 ≤ a2))) else (some false)
theorem impl_inRange.calls (a0 a1 a2 : Int) (r : Bool) (w : World) (h : impl_inRange.f a0 a1 a2 = some r) :
  Calls Tryd.prog 36 #[.int .i64 a0, .int .i64 a1, .int .i64 a2] w fun e w' => e = .returned (.bool r) ∧ Drawn0 w w' := by
 unfold impl_inRange.f at h
 have H := h
 clear h
 replace H := zI1 H
 rcases H with ⟨c4, H⟩ | ⟨c4, H⟩
 ·have a3 : decide (a1 ≤ a0) = true := decide_eq_true c4; clear c4; obtain rfl := zm H
  go_enter Tryd.func36, Tryd.ntmps36
  go_wp2
  go_ret
  exact ⟨by first | rfl | (simp; done) | (simp [*]; done) | (simp; rw [Bool.eq_iff_iff]; simp; done), zv0⟩
 have a3 : decide (a1 ≤ a0) = false := decide_eq_false c4
 clear c4
 obtain rfl := zm H
 go_enter Tryd.func36, Tryd.ntmps36
 go_wp2
 go_ret
 exact ⟨by first | rfl | (simp; done) | (simp [*]; done) | (simp; rw [Bool.eq_iff_iff]; simp; done), zv0⟩
/-! ### impl_isPlain: function 52 -/
def impl_isPlain.f (a0 : Int) : Option (Bool) := if a0 ≥ 32 then (some (decide (a0 ≤ 126))) else (some false)
theorem impl_isPlain.calls (a0 : Int) (r : Bool) (w : World) (h : impl_isPlain.f a0 = some r) :
  Calls Tryd.prog 52 #[.int .u8 a0] w fun e w' => e = .returned (.bool r) ∧ Drawn0 w w' := by
 unfold impl_isPlain.f at h
 have H := h
 clear h
 replace H := zI1 H
 rcases H with ⟨c2, H⟩ | ⟨c2, H⟩
 ·have a1 : decide (32 ≤ a0) = true := decide_eq_true c2; clear c2; obtain rfl := zm H
  go_enter Tryd.func52, Tryd.ntmps52
  go_wp2
  go_ret
  exact ⟨by first | rfl | (simp; done) | (simp [*]; done) | (simp; rw [Bool.eq_iff_iff]; simp; done), zv0⟩
 have a1 : decide (32 ≤ a0) = false := decide_eq_false c2
 clear c2
 obtain rfl := zm H
 go_enter Tryd.func52, Tryd.ntmps52
 go_wp2
 go_ret
 exact ⟨by first | rfl | (simp; done) | (simp [*]; done) | (simp; rw [Bool.eq_iff_iff]; simp; done), zv0⟩
/-! ### impl_isVByte: function 44 -/
def impl_isVByte.f (a0 : Int) : Option (Bool) := (impl_isPlain.f a0).bind fun a1 => (if a1 = true then (some true) else (if a0 = 10 then (some true) else (some (a0 == 9))))
theorem impl_isVByte.calls (a0 : Int) (r : Bool) (w : World) (h : impl_isVByte.f a0 = some r) :
  Calls Tryd.prog 44 #[.int .u8 a0] w fun e w' => e = .returned (.bool r) ∧ Drawn0 w w' := by
 unfold impl_isVByte.f at h
 have H := h
 clear h
 replace H := Option.bind_eq_some_iff.mp H
 obtain ⟨a4, a1, H⟩ := H
 try dsimp only at H
 have A2 := zA a1
 clear a1
 replace H := zB0 H
 rcases H with ⟨rfl, H⟩ | ⟨rfl, H⟩
 ·obtain rfl := zm H
  go_enter Tryd.func44, Tryd.ntmps44
  go_wp2_with (first | ((with_reducible refine zq 52 ?_); refine zg (some 4) Tryd.func52 #[.int .u8 a0] ?_; (with_reducible refine (impl_isPlain.calls a0 true _ A2.out).mono ?_); rintro e w' ⟨rfl, ⟨nd, rfl⟩⟩; refine ⟨_, rfl, ?_⟩))
  go_ret
  exact ⟨by first | rfl | (simp; done) | (simp [*]; done) | (simp; rw [Bool.eq_iff_iff]; simp; done), zv0⟩
 replace H := zI1 H
 rcases H with ⟨c4, H⟩ | ⟨c4, H⟩
 ·have a2 := beq_iff_eq.mpr c4; have a3 := bne_eq_false_iff_eq.mpr c4; clear c4; obtain rfl := zm H
  go_enter Tryd.func44, Tryd.ntmps44
  go_wp2_with (first | ((with_reducible refine zq 52 ?_); refine zg (some 4) Tryd.func52 #[.int .u8 a0] ?_; (with_reducible refine (impl_isPlain.calls a0 false _ A2.out).mono ?_); rintro e w' ⟨rfl, ⟨nd, rfl⟩⟩; refine ⟨_, rfl, ?_⟩))
  go_ret
  exact ⟨by first | rfl | (simp; done) | (simp [*]; done) | (simp; rw [Bool.eq_iff_iff]; simp; done), zv0⟩
 have a2 := beq_eq_false_iff_ne.mpr c4
 have a3 := bne_iff_ne.mpr c4
 obtain rfl := zm H
 go_enter Tryd.func44, Tryd.ntmps44
 go_wp2_with (first | ((with_reducible refine zq 52 ?_); refine zg (some 4) Tryd.func52 #[.int .u8 a0] ?_; (with_reducible refine (impl_isPlain.calls a0 false _ A2.out).mono ?_); rintro e w' ⟨rfl, ⟨nd, rfl⟩⟩; refine ⟨_, rfl, ?_⟩))
 go_ret
 exact ⟨by first | rfl | (simp; done) | (simp [*]; done) | (simp; rw [Bool.eq_iff_iff]; simp; done), zv0⟩
/-! ### impl_vTextOk: function 37 -/
def impl_vTextOk.l0 : Nat → ByteArray → Int → Option (Bool)
 | 0, _, _ => none
 | k + 1, x0, x3 => if x3 < (x0.size : Int) then (if 0 ≤ x3 then ((impl_isVByte.f (bt x0 x3)).bind fun a0 => (if a0 = true then (impl_vTextOk.l0 k x0 (wrap64 (x3 + 1))) else (some false))) else (none)) else (some (decide ((x0.size : Int) ≤ 60)))
def impl_vTextOk.f (k : Nat) (a0 : ByteArray) : Option (Bool) := impl_vTextOk.l0 k a0 0
theorem impl_vTextOk.calls (k : Nat) (a0 : ByteArray) (r : Bool) (w : World) (h : impl_vTextOk.f k a0 = some r) :
  Calls Tryd.prog 37 #[.string a0] w fun e w' => e = .returned (.bool r) ∧ Drawn0 w w' := by
 unfold impl_vTextOk.f at h
 have H := h
 clear h
 have H' := zA H
 clear H
 go_enter Tryd.func37, Tryd.ntmps37
 go_wp2
 go_loopg [3] k (fun kq v3 w' => ∃ (a1 : Int), v3 = .int .i64 a1 ∧ Aside0 (impl_vTextOk.l0 kq a0 a1 = some r) ∧ Aside0 (kq ≤ k) ∧ Drawn0 w w')
 case atStart => exact ⟨(0), zS, H', ⟨Nat.le_refl _⟩, zv0⟩
 case round =>
  clear H'; obtain ⟨a1, rfl, HA, a2, ⟨m1, rfl⟩⟩ := hrel
  cases gk with
  | zero => exact absurd HA.out (by simp [impl_vTextOk.l0])
  | succ k1 =>
   have H := HA.out; clear HA; simp only [impl_vTextOk.l0] at H; replace H := zI0 H
   rcases H with ⟨a4, H⟩ | ⟨a4, H⟩
   ·replace H := zD0 H; obtain ⟨a6, H⟩ := H; replace H := Option.bind_eq_some_iff.mp H; obtain ⟨a7, a3, H⟩ := H
    try dsimp only at H
    have A5 := zA a3; clear a3; replace H := zB0 H
    rcases H with ⟨rfl, H⟩ | ⟨rfl, H⟩
    ·have H' := zA H; clear H; have p4 : 0 ≤ (a1 : Int) := zD; have q4 : a1 < (a0.size : Int) := zD; have a5 := bt_at a0 a1; replace p4 := eq_true p4; replace q4 := eq_true q4
     go_wp2_with (first | ((with_reducible refine zq 44 ?_); refine zg (some 13) Tryd.func44 #[.int .u8 (bt a0 a1)] ?_; (with_reducible refine (impl_isVByte.calls (bt a0 a1) true _ A5.out).mono ?_); rintro e w' ⟨rfl, ⟨nd, rfl⟩⟩; refine ⟨_, rfl, ?_⟩))
     go_roundg k1
     case measure => have := a2.out; omega
     case rel => exact ⟨(wrap64 (a1 + 1)), zS, H', ⟨by have := a2.out; omega⟩, zv0⟩
    obtain rfl := zm H; have p4 : 0 ≤ (a1 : Int) := zD; have q4 : a1 < (a0.size : Int) := zD; have a5 := bt_at a0 a1; replace p4 := eq_true p4; replace q4 := eq_true q4
    go_wp2_with (first | ((with_reducible refine zq 44 ?_); refine zg (some 13) Tryd.func44 #[.int .u8 (bt a0 a1)] ?_; (with_reducible refine (impl_isVByte.calls (bt a0 a1) false _ A5.out).mono ?_); rintro e w' ⟨rfl, ⟨nd, rfl⟩⟩; refine ⟨_, rfl, ?_⟩))
    go_ret
    exact ⟨by first | rfl | (simp; done) | (simp [*]; done) | (simp; rw [Bool.eq_iff_iff]; simp; done), zv0⟩
   obtain rfl := zm H
   go_wp2
   go_ret
   exact ⟨by first | rfl | (simp; done) | (simp [*]; done) | (simp; rw [Bool.eq_iff_iff]; simp; done), zv0⟩
/-! ### impl_isAscending: function 38 -/
def impl_isAscending.l0 : Nat → List ByteArray → Int → Option (Bool)
 | 0, _, _ => none
 | k + 1, x0, x3 => if x3 < (x0.length : Int) then (if 0 ≤ x3 then (if 0 ≤ (wrap64 (x3 - 1)) then (if (wrap64 (x3 - 1)) < (x0.length : Int) then (if ((Op.bytesLess ((rdOf ByteArray.empty x0 (wrap64 (x3 - 1))).toList) ((rdOf ByteArray.empty x0 x3).toList)) = true) then (impl_isAscending.l0 k x0 (wrap64 (x3 + 1))) else (some false)) else (none)) else (none)) else (none)) else (some true)
def impl_isAscending.f (k : Nat) (l0 : List ByteArray) : Option (Bool) := impl_isAscending.l0 k l0 1
theorem impl_isAscending.calls (k : Nat) (A0 : Option Addr) (c0 : Nat) (l0 : List ByteArray) (r : Bool) (w : World) (b2 : Kd.C Kd.string w A0 l0.length l0) (b3 : l0.length ≤ c0) (h : impl_isAscending.f k l0 = some r) :
  Calls Tryd.prog 38 #[.slice A0 l0.length c0] w fun e w' => e = .returned (.bool r) ∧ Drawn0 w w' := by
 have a6 := zA b2
 have b9 := zA b3
 clear b2 b3
 unfold impl_isAscending.f at h
 have H := h
 clear h
 have H' := zA H
 clear H
 go_enter Tryd.func38, Tryd.ntmps38
 go_wp2
 repeat (go_quiet (fail); try go_wp2)
 go_loopg [3] k (fun kq v3 w' => ∃ (a0 : Int), v3 = .int .i64 a0 ∧ Aside0 (impl_isAscending.l0 kq l0 a0 = some r) ∧ Aside0 (kq ≤ k) ∧ Drawn0 w w')
 case atStart => exact ⟨(1), zS, H', ⟨Nat.le_refl _⟩, zv0⟩
 case round =>
  clear H'; obtain ⟨a0, rfl, HA, b4, ⟨m1, rfl⟩⟩ := hrel
  cases gk with
  | zero => exact absurd HA.out (by simp [impl_isAscending.l0])
  | succ k1 =>
   have H := HA.out; clear HA; simp only [impl_isAscending.l0] at H; replace H := zI0 H
   rcases H with ⟨b5, H⟩ | ⟨b5, H⟩
   ·replace H := zD0 H; obtain ⟨c1, H⟩ := H; obtain ⟨a1, a7⟩ : ∃ j_ : Int, (wrap64 (a0 - 1)) = j_ := ⟨_, rfl⟩
    replace H : (if 0 ≤ (a1) then (if (a1) < (l0.length : Int) then (if ((Op.bytesLess ((rdOf ByteArray.empty l0 (a1)).toList) ((rdOf ByteArray.empty l0 a0).toList)) = true) then (impl_isAscending.l0 k1 l0 (wrap64 (a0 + 1))) else (some false)) else (none)) else (none)) = some r := by first | (rw [a7] at H; exact H) | (simp only [a7] at H ⊢; exact H)
    have hji4w : (IntKind.i64.wrap (a0 - 1)) = a1 := (i64_w _).trans a7; replace H := zD0 H; obtain ⟨c2, H⟩ := H; replace H := zD0 H; obtain ⟨c3, H⟩ := H; replace H := zI1 H
    rcases H with ⟨c7, H⟩ | ⟨c7, H⟩
    ·have b6 : (Op.bytesLess ((rdOf ByteArray.empty l0 (a1)).toList) ((rdOf ByteArray.empty l0 a0).toList)) = true := c7; clear c7; have H' := zA H; clear H; have a2 : 0 ≤ (a0 : Int) := zD; have a3 : a0 < (l0.length : Int) := zD; obtain ⟨a8, a9, b7⟩ := Kd.at_string a6.out a0 a2 a3; cases a9; replace a2 := eq_true a2; replace a3 := eq_true a3; have a4 : 0 ≤ ((a1) : Int) := zD; have a5 : (a1) < (l0.length : Int) := zD; obtain ⟨b0, b1, b8⟩ := Kd.at_string a6.out (a1) a4 a5; obtain rfl : a8 = b0 := (by injection b1); replace a4 := eq_true a4; replace a5 := eq_true a5
     go_wp2
     repeat (go_quiet (fail); try go_wp2)
     go_roundg k1
     case measure => have := b4.out; omega
     case rel => exact ⟨(wrap64 (a0 + 1)), zS, H', ⟨by have := b4.out; omega⟩, zv0⟩
    have b6 : (Op.bytesLess ((rdOf ByteArray.empty l0 (a1)).toList) ((rdOf ByteArray.empty l0 a0).toList)) = false := by simpa using c7
    clear c7; obtain rfl := zm H; have a2 : 0 ≤ (a0 : Int) := zD; have a3 : a0 < (l0.length : Int) := zD; obtain ⟨a8, a9, b7⟩ := Kd.at_string a6.out a0 a2 a3; cases a9; replace a2 := eq_true a2; replace a3 := eq_true a3; have a4 : 0 ≤ ((a1) : Int) := zD; have a5 : (a1) < (l0.length : Int) := zD; obtain ⟨b0, b1, b8⟩ := Kd.at_string a6.out (a1) a4 a5; obtain rfl : a8 = b0 := (by injection b1); replace a4 := eq_true a4; replace a5 := eq_true a5
    go_wp2
    repeat (go_quiet (fail); try go_wp2)
    go_ret
    exact ⟨by first | rfl | (simp; done) | (simp only [← a7] <;> (first | rfl | simp)) | (simp [*]; done), zv0⟩
   obtain rfl := zm H
   go_wp2
   repeat (go_quiet (fail); try go_wp2)
   go_ret
   exact ⟨by first | rfl | (simp; done) | (simp [*]; done) | (simp; rw [Bool.eq_iff_iff]; simp; done), zv0⟩
/-! ### impl_isNoVText: function 40 -/
def impl_isNoVText.f (k : Nat) (a0 : ByteArray) : Option (Bool) := (impl_vTextOk.f k a0).bind fun a1 => (some (!a1))
theorem impl_isNoVText.calls (k : Nat) (a0 : ByteArray) (r : Bool) (w : World) (h : impl_isNoVText.f k a0 = some r) :
  Calls Tryd.prog 40 #[.string a0] w fun e w' => e = .returned (.bool r) ∧ Drawn0 w w' := by
 unfold impl_isNoVText.f at h
 have H := h
 clear h
 replace H := Option.bind_eq_some_iff.mp H
 obtain ⟨a2, a1, H⟩ := H
 try dsimp only at H
 have A2 := zA a1
 clear a1
 obtain rfl := zm H
 go_enter Tryd.func40, Tryd.ntmps40
 go_wp2_with (first | ((with_reducible refine zq 37 ?_); refine zg (some 4) Tryd.func37 #[.string a0] ?_; (with_reducible refine (impl_vTextOk.calls k a0 a2 _ A2.out).mono ?_); rintro e w' ⟨rfl, ⟨nd, rfl⟩⟩; refine ⟨_, rfl, ?_⟩))
 go_ret
 exact ⟨by first | rfl | (simp; done) | (simp [*]; done) | (simp; rw [Bool.eq_iff_iff]; simp; done), zv0⟩
/-! ### slices_IndexFunc_string_string: function 45 -/
def slices_IndexFunc_string_string.l0 : Nat → List ByteArray → Int → Int → Option (Int)
 | 0, _, _, _ => none
 | k + 1, x0, x7, x8 => if x8 < x7 then (if 0 ≤ x8 then (if x8 < (x0.length : Int) then ((impl_isNoVText.f k (rdOf ByteArray.empty x0 x8)).bind fun a0 => (if a0 = true then (some x8) else (slices_IndexFunc_string_string.l0 k x0 x7 (wrap64 (x8 + 1))))) else (none)) else (none)) else (some (-1))
def slices_IndexFunc_string_string.f (k : Nat) (l0 : List ByteArray) : Option (Int) := slices_IndexFunc_string_string.l0 k l0 (l0.length : Int) 0
theorem slices_IndexFunc_string_string.calls (k : Nat) (A0 : Option Addr) (c0 : Nat) (l0 : List ByteArray) (r : Int) (w : World) (a4 : Kd.C Kd.string w A0 l0.length l0) (a5 : l0.length ≤ c0) (h : slices_IndexFunc_string_string.f k l0 = some r) :
  Calls Tryd.prog 45 #[.slice A0 l0.length c0, .func (.func 40) #[] #[]] w fun e w' => e = .returned (.int .i64 r) ∧ Drawn0 w w' := by
 have a6 := zA a4
 have b2 := zA a5
 clear a4 a5
 unfold slices_IndexFunc_string_string.f at h
 have H := h
 clear h
 have H' := zA H
 clear H
 go_enter Tryd.func45, Tryd.ntmps45
 go_wp2
 go_loopg [8] k (fun kq v8 w' => ∃ (a0 : Int), v8 = .int .i64 a0 ∧ Aside0 (slices_IndexFunc_string_string.l0 kq l0 (l0.length : Int) a0 = some r) ∧ Aside0 (kq ≤ k) ∧ Drawn0 w w')
 case atStart => exact ⟨(0), zS, H', ⟨Nat.le_refl _⟩, zv0⟩
 case round =>
  clear H'; obtain ⟨a0, rfl, HA, a7, ⟨m1, rfl⟩⟩ := hrel
  cases gk with
  | zero => exact absurd HA.out (by simp [slices_IndexFunc_string_string.l0])
  | succ k1 =>
   have H := HA.out; clear HA; simp only [slices_IndexFunc_string_string.l0] at H; replace H := zI0 H
   rcases H with ⟨a9, H⟩ | ⟨a9, H⟩
   ·replace H := zD0 H; obtain ⟨b3, H⟩ := H; replace H := zD0 H; obtain ⟨b4, H⟩ := H; replace H := Option.bind_eq_some_iff.mp H; obtain ⟨b5, a8, H⟩ := H
    try dsimp only at H
    have A5 := zA a8; clear a8; replace H := zB0 H
    rcases H with ⟨rfl, H⟩ | ⟨rfl, H⟩
    ·obtain rfl := zm H; have a1 : 0 ≤ (a0 : Int) := zD; have a2 : a0 < (l0.length : Int) := zD; obtain ⟨b0, a3, b1⟩ := Kd.at_string a6.out a0 a1 a2; cases a3; replace a1 := eq_true a1; replace a2 := eq_true a2
     go_wp2_with (first | (go_at_call 40; (with_reducible refine (impl_isNoVText.calls k1 (rdOf ByteArray.empty l0 a0) true _ A5.out).mono ?_); rintro e w' ⟨rfl, ⟨nd, rfl⟩⟩))
     go_ret
     exact ⟨by first | rfl | (simp; done) | (simp [*]; done) | (simp; rw [Bool.eq_iff_iff]; simp; done), zv0⟩
    have H' := zA H; clear H; have a1 : 0 ≤ (a0 : Int) := zD; have a2 : a0 < (l0.length : Int) := zD; obtain ⟨b0, a3, b1⟩ := Kd.at_string a6.out a0 a1 a2; cases a3; replace a1 := eq_true a1; replace a2 := eq_true a2
    go_wp2_with (first | (go_at_call 40; (with_reducible refine (impl_isNoVText.calls k1 (rdOf ByteArray.empty l0 a0) false _ A5.out).mono ?_); rintro e w' ⟨rfl, ⟨nd, rfl⟩⟩))
    go_roundg k1
    case measure => have := a7.out; omega
    case rel => exact ⟨(wrap64 (a0 + 1)), zS, H', ⟨by have := a7.out; omega⟩, zv0⟩
   obtain rfl := zm H
   go_wp2
   go_ret
   exact ⟨by first | rfl | (simp; done) | (simp [*]; done) | (simp; rw [Bool.eq_iff_iff]; simp; done), zv0⟩
/-! ### slices_ContainsFunc_string_string: function 39 -/
def slices_ContainsFunc_string_string.f (k : Nat) (l0 : List ByteArray) : Option (Bool) := (slices_IndexFunc_string_string.f k l0).bind fun a0 => (some (decide (a0 ≥ 0)))
theorem slices_ContainsFunc_string_string.calls (k : Nat) (A0 : Option Addr) (c0 : Nat) (l0 : List ByteArray) (r : Bool) (w : World) (a0 : Kd.C Kd.string w A0 l0.length l0) (a1 : l0.length ≤ c0) (h : slices_ContainsFunc_string_string.f k l0 = some r) :
  Calls Tryd.prog 39 #[.slice A0 l0.length c0, .func (.func 40) #[] #[]] w fun e w' => e = .returned (.bool r) ∧ Drawn0 w w' := by
 have a3 := zA a0
 have a4 := zA a1
 clear a0 a1
 unfold slices_ContainsFunc_string_string.f at h
 have H := h
 clear h
 replace H := Option.bind_eq_some_iff.mp H
 obtain ⟨a5, a2, H⟩ := H
 try dsimp only at H
 have A2 := zA a2
 clear a2
 obtain rfl := zm H
 go_enter Tryd.func39, Tryd.ntmps39
 go_wp2_with (first | ((with_reducible refine zq 45 ?_); refine zg (some 7) Tryd.func45 #[.slice A0 l0.length c0, .func (.func 40) #[] #[]] ?_; (with_reducible refine (slices_IndexFunc_string_string.calls k _ _ l0 a5 _ ?s1 ?s2 A2.out).mono ?_); (case s1 => exact zC a3.out); (case s2 => exact a4.out); rintro e w' ⟨rfl, ⟨nd, rfl⟩⟩; refine ⟨_, rfl, ?_⟩))
 go_ret
 exact ⟨by first | rfl | (simp; done) | (simp [*]; done) | (simp; rw [Bool.eq_iff_iff]; simp; done), zv0⟩
/-! ### impl_Val_plainOk: function 28 -/
def impl_Val_plainOk.j0 : Nat → Bool → Int → Int → ByteArray → List (S30) → List ByteArray → Option (Bool)
 | 0, _, _, _, _, _, _ => none
 | k + 1, x3, a0, a1, a2, a4, a3 => if a0 = 0 then (if x3 = true then (if a1 = 0 then (some (a2.toList == ([] : List UInt8))) else (some false)) else (some false)) else (if a0 = 1 then (if x3 = true then ((impl_inRange.f a1 0 1).bind fun a5 => (if a5 = true then (some (a2.toList == ([] : List UInt8))) else (some false))) else (some false)) else (if a0 = 2 then (if x3 = true then ((impl_inRange.f a1 (-999999) 999999).bind fun a6 => (if a6 = true then (some (a2.toList == ([] : List UInt8))) else (some false))) else (some false)) else (if a0 = 3 then (if x3 = true then (if a1 = 0 then ((impl_vTextOk.f k a2).bind fun a7 => (some a7)) else (some false)) else (some false)) else (if a0 = 4 then (if a1 = 0 then (if a2.toList = ([] : List UInt8) then (some ((a3.length : Int) == 0)) else (some false)) else (some false)) else (if a0 = 5 then (if a1 = 0 then (if a2.toList = ([] : List UInt8) then (if (a3.length : Int) = (a4.length : Int) then ((impl_isAscending.f k a3).bind fun a8 => (if a8 = true then ((slices_ContainsFunc_string_string.f k a3).bind fun a9 => (some (!a9))) else (some false))) else (some false)) else (some false)) else (some false)) else (some false))))))
def impl_Val_plainOk.f (k : Nat) (a2 a3 : Int) (a4 : ByteArray) (a0 : List (S30)) (a1 : List ByteArray) : Option (Bool) := if (a0.length : Int) = 0 then (impl_Val_plainOk.j0 k ((a1.length : Int) == 0) a2 a3 a4 a0 a1) else (impl_Val_plainOk.j0 k false a2 a3 a4 a0 a1)
theorem impl_Val_plainOk.calls (k : Nat) (b7 a4 : Int) (a5 : ByteArray) (b8 : Option Addr) (b9 : Nat) (a2 : List (S30)) (c0 : Option Addr) (c1 : Nat) (a1 : List ByteArray) (r : Bool) (w : World) (d1 : Kd.C k30 w b8 a2.length a2) (d2 : a2.length ≤ b9) (d3 : Kd.C Kd.string w c0 a1.length a1) (d4 : a1.length ≤ c1) (h : impl_Val_plainOk.f k b7 a4 a5 a2 a1 = some r) :
  Calls Tryd.prog 28 #[.agg #[.int .i64 b7, .int .i64 a4, .string a5, .slice b8 a2.length b9, .slice c0 a1.length c1]] w fun e w' => e = .returned (.bool r) ∧ Below w.heap.size w w' := by
 have j8 := Tryd.underlying30
 have j9 := zA d1
 have k0 := zA d2
 clear d1 d2
 have c5 := zA d3
 have c6 := zA d4
 clear d3 d4
 have HB := zA (Below.refl w.heap.size w)
 unfold impl_Val_plainOk.f at h
 have H := h
 clear h
 have c8 := zA H
 clear H
 go_enter Tryd.func28, Tryd.ntmps28
 go_upto_region 1 with (first | ((with_reducible refine gate_dst (N := 1) rfl ?_); (try (refine gate_guard (by rfl) ?_; dsimp only)); refine box_event ?hg (N := 1) ?hd (cs := #[.int .i64 b7, .int .i64 a4, .string a5, .slice b8 a2.length b9, .slice c0 a1.length c1]) (t := 30) ?hr ?_; (case hd => rfl); (case hg => rfl); (case hr => first | (go_simp; done) | (go_simp; rfl)); intro e4 hg w3 hbox hb; have a0 := zA (hbox); have k1 := zi HB hg; have k2 := zi HB hg; replace HB := zA (below_step (zB) hb); clear hb hbox hg))
 (try simp only [Act.put, zT])
 go_cut [3] (fun v3 wc => ∃ (kq : Nat) (d0 : Bool), v3 = .bool d0 ∧ Aside0 (impl_Val_plainOk.j0 kq d0 b7 a4 a5 a2 a1 = some r) ∧ Aside0 (kq ≤ k) ∧ Aside0 (wc.heap[e4]? = some (.cells #[.int .i64 b7, .int .i64 a4, .string a5, (.slice b8 a2.length b9), (.slice c0 a1.length c1)] 30 (0, 0))) ∧ Aside0 (Below w.heap.size w wc))
 case first =>
  have H := c8.out; clear c8; replace H := zI1 H
  rcases H with ⟨c4, H⟩ | ⟨c4, H⟩
  ·have a6 := beq_iff_eq.mpr c4; have d5 := bne_eq_false_iff_eq.mpr c4; clear c4
   (first | rw [a6] | (simp only [i64_w, i32_w]; rw [a6]) | skip)
   have H' := zA H; clear H; obtain ⟨e5, e6, e7, e8, e9, f0, f1, f2, f3, f4⟩ := ze5 a0.out
   go_wp2
   go_meet
   case rel => exact ⟨_, (((a1.length : Int) == 0)), zS, (by first | exact H' | (subst_vars; exact H')), ⟨by first | omega | exact Nat.le_refl _⟩, ⟨zK a0.out⟩, ⟨zW HB.out⟩⟩
  have a6 := beq_eq_false_iff_ne.mpr c4; have d5 := bne_iff_ne.mpr c4
  have f5 : ¬ (a2 = []) := fun h_ => c4 (by rw [h_]; rfl)
  (first | rw [a6] | (simp only [i64_w, i32_w]; rw [a6]) | skip)
  have H' := zA H; clear H; obtain ⟨f6, f7, f8, f9, g0, g1, g2, g3, g4, g5⟩ := ze5 a0.out
  go_wp2
  go_meet
  case rel => exact ⟨_, (false), zS, (by first | exact H' | (subst_vars; exact H')), ⟨by first | omega | exact Nat.le_refl _⟩, ⟨zK a0.out⟩, ⟨zW HB.out⟩⟩
 case rest =>
  clear c8
  try clear c2
  try clear p2
  try clear c4
  try clear a6
  try clear d5
  try clear f5
  try clear e5 e6 e7 e8 e9 f0 f1 f2 f3 f4
  try clear f6 f7 f8 f9 g0 g1 g2 g3 g4 g5
  obtain ⟨kq, d0, rfl, HA, k3, a0, HB⟩ := hcut
  cases kq with
  | zero => exact absurd HA.out (by simp [impl_Val_plainOk.j0])
  | succ c3 =>
   have H := HA.out; clear HA; simp only [impl_Val_plainOk.j0] at H; replace H := zI1 H
   rcases H with ⟨c7, H⟩ | ⟨c7, H⟩
   ·have g6 := beq_iff_eq.mpr c7; have g7 := bne_eq_false_iff_eq.mpr c7; clear c7; replace H := zB0 H
    rcases H with ⟨rfl, H⟩ | ⟨rfl, H⟩
    ·replace H := zI1 H
     rcases H with ⟨c9, H⟩ | ⟨c9, H⟩
     ·have g8 := beq_iff_eq.mpr c9; have g9 := bne_eq_false_iff_eq.mpr c9; clear c9; obtain rfl := zm H; obtain ⟨k4, k5, k6, k7, k8, k9, l0, l1, l2, l3⟩ := ze5 a0.out
      go_wp2
      go_ret
      exact ⟨zE, zW HB.out⟩
     have g8 := beq_eq_false_iff_ne.mpr c9; have g9 := bne_iff_ne.mpr c9; obtain rfl := zm H; obtain ⟨l4, l5, l6, l7, l8, l9, m0, m1, m2, m3⟩ := ze5 a0.out
     go_wp2
     go_ret
     exact ⟨zE, zW HB.out⟩
    obtain rfl := zm H; obtain ⟨m4, m5, m6, m7, m8, m9, n0, n1, n2, n3⟩ := ze5 a0.out
    go_wp2
    go_ret
    exact ⟨zE, zW HB.out⟩
   have g6 := beq_eq_false_iff_ne.mpr c7; have g7 := bne_iff_ne.mpr c7; replace H := zI1 H
   rcases H with ⟨a7, H⟩ | ⟨a7, H⟩
   ·have h0 := beq_iff_eq.mpr a7; have h1 := bne_eq_false_iff_eq.mpr a7; clear a7; replace H := zB0 H
    rcases H with ⟨rfl, H⟩ | ⟨rfl, H⟩
    ·replace H := Option.bind_eq_some_iff.mp H; obtain ⟨n4, d6, H⟩ := H
     try dsimp only at H
     have d7 := zA d6; clear d6; replace H := zB0 H
     rcases H with ⟨rfl, H⟩ | ⟨rfl, H⟩
     ·obtain rfl := zm H; obtain ⟨n5, n6, n7, n8, n9, o0, o1, o2, o3, o4⟩ := ze5 a0.out
      go_wp2_with (first | (go_at_call 36; (with_reducible refine (impl_inRange.calls a4 0 1 true _ d7.out).mono ?_); rintro e w' ⟨rfl, ⟨nd, rfl⟩⟩))
      go_ret
      exact ⟨zE, zW HB.out⟩
     obtain rfl := zm H; obtain ⟨o5, o6, o7, o8, o9, p0, p1, p3, p4, p5⟩ := ze5 a0.out
     go_wp2_with (first | (go_at_call 36; (with_reducible refine (impl_inRange.calls a4 0 1 false _ d7.out).mono ?_); rintro e w' ⟨rfl, ⟨nd, rfl⟩⟩))
     go_ret
     exact ⟨zE, zW HB.out⟩
    obtain rfl := zm H; obtain ⟨p6, p7, p8, p9, q0, q1, q2, q3, q4, q5⟩ := ze5 a0.out
    go_wp2
    go_ret
    exact ⟨zE, zW HB.out⟩
   have h0 := beq_eq_false_iff_ne.mpr a7; have h1 := bne_iff_ne.mpr a7; replace H := zI1 H
   rcases H with ⟨a8, H⟩ | ⟨a8, H⟩
   ·have h2 := beq_iff_eq.mpr a8; have h3 := bne_eq_false_iff_eq.mpr a8; clear a8; replace H := zB0 H
    rcases H with ⟨rfl, H⟩ | ⟨rfl, H⟩
    ·replace H := Option.bind_eq_some_iff.mp H; obtain ⟨q6, d8, H⟩ := H
     try dsimp only at H
     have d9 := zA d8; clear d8; replace H := zB0 H
     rcases H with ⟨rfl, H⟩ | ⟨rfl, H⟩
     ·obtain rfl := zm H; obtain ⟨q7, q8, q9, r0, r1, r2, r3, r4, r5, r6⟩ := ze5 a0.out
      go_wp2_with (first | (go_at_call 36; (with_reducible refine (impl_inRange.calls a4 (-999999) 999999 true _ d9.out).mono ?_); rintro e w' ⟨rfl, ⟨nd, rfl⟩⟩))
      go_ret
      exact ⟨zE, zW HB.out⟩
     obtain rfl := zm H; obtain ⟨r7, r8, r9, t0, t1, t2, t3, t4, t5, t6⟩ := ze5 a0.out
     go_wp2_with (first | (go_at_call 36; (with_reducible refine (impl_inRange.calls a4 (-999999) 999999 false _ d9.out).mono ?_); rintro e w' ⟨rfl, ⟨nd, rfl⟩⟩))
     go_ret
     exact ⟨zE, zW HB.out⟩
    obtain rfl := zm H; obtain ⟨t7, t8, t9, v0, v1, v2, v4, v5, v6, v7⟩ := ze5 a0.out
    go_wp2
    go_ret
    exact ⟨zE, zW HB.out⟩
   have h2 := beq_eq_false_iff_ne.mpr a8; have h3 := bne_iff_ne.mpr a8; replace H := zI1 H
   rcases H with ⟨a9, H⟩ | ⟨a9, H⟩
   ·have h4 := beq_iff_eq.mpr a9; have h5 := bne_eq_false_iff_eq.mpr a9; clear a9; replace H := zB0 H
    rcases H with ⟨rfl, H⟩ | ⟨rfl, H⟩
    ·replace H := zI1 H
     rcases H with ⟨b0, H⟩ | ⟨b0, H⟩
     ·have h6 := beq_iff_eq.mpr b0; have h7 := bne_eq_false_iff_eq.mpr b0; clear b0; replace H := Option.bind_eq_some_iff.mp H; obtain ⟨h8, e0, H⟩ := H
      try dsimp only at H
      have h9 := zA e0; clear e0; obtain rfl := zm H; obtain ⟨v8, v9, x0, x1, x2, x3, x4, x5, x6, x7⟩ := ze5 a0.out
      go_wp2_with (first | (go_at_call 37; (with_reducible refine (impl_vTextOk.calls c3 a5 h8 _ h9.out).mono ?_); rintro e w' ⟨rfl, ⟨nd, rfl⟩⟩))
      go_ret
      exact ⟨zE, zW HB.out⟩
     have h6 := beq_eq_false_iff_ne.mpr b0; have h7 := bne_iff_ne.mpr b0; obtain rfl := zm H; obtain ⟨x8, x9, y0, y1, y2, y3, y4, y5, y6, y7⟩ := ze5 a0.out
     go_wp2
     go_ret
     exact ⟨zE, zW HB.out⟩
    obtain rfl := zm H; obtain ⟨y8, y9, z0, z1, z2, z3, z4, z5, z6, z7⟩ := ze5 a0.out
    go_wp2
    go_ret
    exact ⟨zE, zW HB.out⟩
   have h4 := beq_eq_false_iff_ne.mpr a9; have h5 := bne_iff_ne.mpr a9; replace H := zI1 H
   rcases H with ⟨b1, H⟩ | ⟨b1, H⟩
   ·have i0 := beq_iff_eq.mpr b1; have i1 := bne_eq_false_iff_eq.mpr b1; clear b1; replace H := zI1 H
    rcases H with ⟨b2, H⟩ | ⟨b2, H⟩
    ·have i2 := beq_iff_eq.mpr b2; have i3 := bne_eq_false_iff_eq.mpr b2; clear b2; replace H := zI1 H
     rcases H with ⟨b3, H⟩ | ⟨b3, H⟩
     ·have i4 := beq_iff_eq.mpr b3; have i5 := bne_eq_false_iff_eq.mpr b3; clear b3; obtain rfl := zm H; obtain ⟨z8, z9, A0, A1, A2, A3, A4, A5, A6, A7⟩ := ze5 a0.out
      go_wp2
      go_ret
      exact ⟨zE, zW HB.out⟩
     have i4 := beq_eq_false_iff_ne.mpr b3; have i5 := bne_iff_ne.mpr b3; obtain rfl := zm H; obtain ⟨A8, A9, B0, B1, B2, B3, B4, B5, B6, B7⟩ := ze5 a0.out
     go_wp2
     go_ret
     exact ⟨zE, zW HB.out⟩
    have i2 := beq_eq_false_iff_ne.mpr b2; have i3 := bne_iff_ne.mpr b2; obtain rfl := zm H; obtain ⟨B8, B9, C0, C1, C2, C3, C4, C5, C6, C7⟩ := ze5 a0.out
    go_wp2
    go_ret
    exact ⟨zE, zW HB.out⟩
   have i0 := beq_eq_false_iff_ne.mpr b1; have i1 := bne_iff_ne.mpr b1; replace H := zI1 H
   rcases H with ⟨b4, H⟩ | ⟨b4, H⟩
   ·have i6 := beq_iff_eq.mpr b4; have i7 := bne_eq_false_iff_eq.mpr b4; clear b4; replace H := zI1 H
    rcases H with ⟨b5, H⟩ | ⟨b5, H⟩
    ·have i8 := beq_iff_eq.mpr b5; have i9 := bne_eq_false_iff_eq.mpr b5; clear b5; replace H := zI1 H
     rcases H with ⟨b6, H⟩ | ⟨b6, H⟩
     ·have j1 := beq_iff_eq.mpr b6; have j2 := bne_eq_false_iff_eq.mpr b6; clear b6; replace H := zI1 H
      rcases H with ⟨a3, H⟩ | ⟨a3, H⟩
      ·have j3 := beq_iff_eq.mpr a3; have j4 := bne_eq_false_iff_eq.mpr a3
       have j5 : (a1.length == a2.length) = true := by first | simpa using a3 | (simp at a3 ⊢; omega)
       clear a3; replace H := Option.bind_eq_some_iff.mp H; obtain ⟨C8, e1, H⟩ := H
       try dsimp only at H
       have e2 := zA e1; clear e1; replace H := zB0 H
       rcases H with ⟨rfl, H⟩ | ⟨rfl, H⟩
       ·replace H := Option.bind_eq_some_iff.mp H; obtain ⟨j6, e3, H⟩ := H
        try dsimp only at H
        have j7 := zA e3; clear e3; obtain rfl := zm H; obtain ⟨C9, D0, D1, D2, D3, D4, D5, D6, D7, D8⟩ := ze5 a0.out
        go_wp2_with (first | (go_at_call 38; (with_reducible refine (impl_isAscending.calls c3 _ _ a1 true _ ?s1 ?s2 e2.out).mono ?_); (case s1 => exact zC (Kd.C_below c5.out HB.out)); (case s2 => exact c6.out); rintro e w' ⟨rfl, ⟨nd, rfl⟩⟩) | (go_at_call 39; (with_reducible refine (slices_ContainsFunc_string_string.calls c3 _ _ a1 j6 _ ?s1 ?s2 j7.out).mono ?_); (case s1 => exact zC (Kd.C_below c5.out (zW HB.out))); (case s2 => exact c6.out); rintro e w' ⟨rfl, ⟨nd, rfl⟩⟩))
        go_ret
        exact ⟨zE, zW HB.out⟩
       obtain rfl := zm H; obtain ⟨D9, E0, E1, E2, E3, E4, E5, E6, E7, E8⟩ := ze5 a0.out
       go_wp2_with (first | (go_at_call 38; (with_reducible refine (impl_isAscending.calls c3 _ _ a1 false _ ?s1 ?s2 e2.out).mono ?_); (case s1 => exact zC (Kd.C_below c5.out HB.out)); (case s2 => exact c6.out); rintro e w' ⟨rfl, ⟨nd, rfl⟩⟩))
       go_ret
       exact ⟨zE, zW HB.out⟩
      have j3 := beq_eq_false_iff_ne.mpr a3; have j4 := bne_iff_ne.mpr a3
      have j5 : (a1.length == a2.length) = false := by first | simpa using a3 | (simp at a3 ⊢; omega)
      obtain rfl := zm H; obtain ⟨E9, F0, F1, F2, F3, F4, F5, F6, F7, F8⟩ := ze5 a0.out
      go_wp2
      go_ret
      exact ⟨zE, zW HB.out⟩
     have j1 := beq_eq_false_iff_ne.mpr b6; have j2 := bne_iff_ne.mpr b6; obtain rfl := zm H; obtain ⟨F9, G0, G1, G2, G3, G4, G5, G6, G7, G8⟩ := ze5 a0.out
     go_wp2
     go_ret
     exact ⟨zE, zW HB.out⟩
    have i8 := beq_eq_false_iff_ne.mpr b5; have i9 := bne_iff_ne.mpr b5; obtain rfl := zm H; obtain ⟨G9, I0, I1, I2, I3, I4, I5, I6, I7, I8⟩ := ze5 a0.out
    go_wp2
    go_ret
    exact ⟨zE, zW HB.out⟩
   have i6 := beq_eq_false_iff_ne.mpr b4; have i7 := bne_iff_ne.mpr b4; obtain rfl := zm H; obtain ⟨I9, J0, J1, J2, J3, J4, J5, J6, J7, J8⟩ := ze5 a0.out
   go_wp2
   go_ret
   exact ⟨zE, zW HB.out⟩
/-! ### impl_Val_measure: function 22 -/
mutual
def impl_Val_measure.j0 : Nat → Int → Bool → Int → Int → ByteArray → List (S30) → List ByteArray → Option (Int)
 | 0, _, _, _, _, _, _, _ => none
 | k + 1, x1, b5, a9, b0, b1, a3, b2 => if b5 = true then (some 81) else (impl_Val_measure.j1 k x1 a9 b0 b1 a3 b2)
def impl_Val_measure.j1 : Nat → Int → Int → Int → ByteArray → List (S30) → List ByteArray → Option (Int)
 | 0, _, _, _, _, _, _ => none
 | k + 1, x1, a9, b0, b1, a3, b2 => impl_Val_measure.l0 k x1 1 a3 (a3.length : Int) 0
def impl_Val_measure.l0 : Nat → Int → Int → List (S30) → Int → Int → Option (Int)
 | 0, _, _, _, _, _ => none
 | k + 1, x1, x5, a2, b3, a0 => if a0 < b3 then (if 0 ≤ a0 then (if a0 < (a2.length : Int) then ((impl_Val_measure.f k ((rd_T30 a2 a0).f0) ((rd_T30 a2 a0).f1) ((rd_T30 a2 a0).f2) ((rd_T30 a2 a0).f3) ((rd_T30 a2 a0).f4) (wrap64 (x1 + 1))).bind fun b4 => (if (wrap64 (x5 + b4)) > 80 then (some 81) else (impl_Val_measure.l0 k x1 (wrap64 (x5 + b4)) a2 b3 (wrap64 (a0 + 1))))) else (none)) else (none)) else (some x5)
def impl_Val_measure.f : Nat → Int → Int → ByteArray → List (S30) → List ByteArray → Int → Option (Int)
 | 0, _, _, _, _, _, _ => none
 | k + 1, a4, a5, a6, a7, a8, a1 => if a1 > 6 then (impl_Val_measure.j0 k a1 true a4 a5 a6 a7 a8) else ((impl_Val_plainOk.f k a4 a5 a6 a7 a8).bind fun b6 => (impl_Val_measure.j0 k a1 (!b6) a4 a5 a6 a7 a8))
end
theorem impl_Val_measure.calls (k : Nat) : ∀ (a5 a6 : Int) (a7 : ByteArray) (a9 : Option Addr) (b0 : Nat) (a0 : List (S30)) (b1 : Option Addr) (b2 : Nat) (a4 : List ByteArray) (a1 r : Int) (w : World) (d8 : Kd.C k30 w a9 a0.length a0) (d9 : a0.length ≤ b0) (e0 : Kd.C Kd.string w b1 a4.length a4) (e1 : a4.length ≤ b2) (h : impl_Val_measure.f k a5 a6 a7 a0 a4 a1 = some r),
  Calls Tryd.prog 22 #[.agg #[.int .i64 a5, .int .i64 a6, .string a7, .slice a9 a0.length b0, .slice b1 a4.length b2], .int .i64 a1] w fun e w' => e = .returned (.int .i64 r) ∧ Below w.heap.size w w' := by
 induction k using Nat.strongRecOn with
 | _ k ih =>
 intro a5 a6 a7 a9 b0 a0 b1 b2 a4 a1 r w d8 d9 e0 e1 h
 cases k with
 | zero => exact absurd h (by simp [impl_Val_measure.f])
 | succ k =>
 simp only [impl_Val_measure.f] at h
 have j8 := Tryd.underlying30
 have e2 := zA d8
 have h5 := zA d9
 clear d8 d9
 have h6 := zA e0
 have h7 := zA e1
 clear e0 e1
 have HB := zA (Below.refl w.heap.size w)
 have H := h
 clear h
 have e3 := zA H
 clear H
 go_enter Tryd.func22, Tryd.ntmps22
 go_upto_region 1 with (first | ((with_reducible refine zd 2 ?_); refine ze 2 30 #[.int .i64 a5, .int .i64 a6, .string a7, .slice a9 a0.length b0, .slice b1 a4.length b2] ?_; intro e4 hg w4 hbox hb; have a3 := zA (hbox); have j9 := zi HB hg; have k0 := zi HB hg; replace HB := zA (below_step (zB) hb); clear hb hbox hg))
 (try simp only [Act.put, zT])
 go_cut [14] (fun h8 wc => ∃ (kq : Nat) (e5 : Bool), h8 = .bool e5 ∧ Aside0 (impl_Val_measure.j0 kq a1 e5 a5 a6 a7 a0 a4 = some r) ∧ Aside0 (kq ≤ k) ∧ Aside0 (wc.heap[e4]? = some (.cells #[.int .i64 a5, .int .i64 a6, .string a7, (.slice a9 a0.length b0), (.slice b1 a4.length b2)] 30 (0, 0))) ∧ Aside0 (Below w.heap.size w wc))
 case first =>
  have H := e3.out; clear e3; replace H := zI1 H
  rcases H with ⟨c5, H⟩ | ⟨c5, H⟩
  ·have a8 : decide (6 < a1) = true := decide_eq_true c5; clear c5
   (first | rw [a8] | (simp only [i64_w, i32_w]; rw [a8]) | skip)
   have H' := zA H; clear H
   go_wp2
   go_meet
   case rel => exact ⟨_, (true), zS, (by first | exact H' | (subst_vars; exact H')), ⟨by first | omega | exact Nat.le_refl _⟩, ⟨zK a3.out⟩, ⟨zW HB.out⟩⟩
  have a8 : decide (6 < a1) = false := decide_eq_false c5; clear c5
  (first | rw [a8] | (simp only [i64_w, i32_w]; rw [a8]) | skip)
  replace H := Option.bind_eq_some_iff.mp H; obtain ⟨h0, h1, H⟩ := H
  try dsimp only at H
  have A6 := zA h1; clear h1; have H' := zA H; clear H; obtain ⟨e6, e7, e8, e9, f5, f6, f7, f8, f9, g0⟩ := ze5 a3.out
  go_wp2_with (first | (go_at_call 28; (with_reducible refine (impl_Val_plainOk.calls k a5 a6 a7 _ _ a0 _ _ a4 h0 _ ?s1 ?s2 ?s3 ?s4 A6.out).mono ?_); (case s1 => exact zC (Kd.C_below e2.out HB.out)); (case s2 => exact h5.out); (case s3 => exact zC (Kd.C_below h6.out HB.out)); (case s4 => exact h7.out); rintro e w8 ⟨rfl, hb⟩; replace a3 := zb a3 hb; replace HB := zh HB hb; (try clear hb)))
  go_meet
  case rel => exact ⟨_, (!h0), zS, (by first | exact H' | (subst_vars; exact H')), ⟨by first | omega | exact Nat.le_refl _⟩, ⟨zK a3.out⟩, ⟨zW HB.out⟩⟩
 case rest =>
  clear e3
  try clear c2
  try clear p2
  try clear c5
  try clear a8
  try clear e6 e7 e8 e9 f5 f6 f7 f8 f9 g0
  obtain ⟨kq, e5, rfl, HA, b9, a3, HB⟩ := hcut
  cases kq with
  | zero => exact absurd HA.out (by simp [impl_Val_measure.j0])
  | succ h9 =>
   have H := HA.out; clear HA; simp only [impl_Val_measure.j0] at H; have g1 := zA H; clear H
   go_upto_if 14 with (fail)
   go_cut [] (fun wc => ∃ (kq : Nat), Aside0 (impl_Val_measure.j1 kq a1 a5 a6 a7 a0 a4 = some r) ∧ Aside0 (kq ≤ h9) ∧ Aside0 (wc.heap[e4]? = some (.cells #[.int .i64 a5, .int .i64 a6, .string a7, (.slice a9 a0.length b0), (.slice b1 a4.length b2)] 30 (0, 0))) ∧ Aside0 (Below w.heap.size w wc))
   case first =>
    have H := g1.out; clear g1; replace H := zB0 H
    rcases H with ⟨rfl, H⟩ | ⟨rfl, H⟩
    ·obtain rfl := zm H
     go_wp2
     go_ret
     exact ⟨zE, zW HB.out⟩
    have H' := zA H; clear H
    go_wp2
    go_meet
    case rel => exact ⟨_, (by first | exact H' | (subst_vars; exact H')), ⟨by have := b9.out; first | omega | exact Nat.le_refl _⟩, ⟨zK a3.out⟩, ⟨zW HB.out⟩⟩
   case rest =>
    clear g1
    try clear c1
    try clear c2
    try clear p2
    try clear c5
    try clear a8
    try clear c10
    try clear e6 e7 e8 e9 f5 f6 f7 f8 f9 g0
    try clear p2
    obtain ⟨kq, HA, d6, a3, HB⟩ := hcut
    cases kq with
    | zero => exact absurd HA.out (by simp [impl_Val_measure.j1])
    | succ h2 =>
     have H := HA.out; clear HA; simp only [impl_Val_measure.j1] at H; have H' := zA H; clear H; obtain ⟨i0, i1, i2, i3, i4, i5, i6, i7, i8, i9⟩ := ze5 a3.out
     go_wp2
     go_loopg [5, 18] h2 (fun kq v5 j2 w' => ∃ (b8 : Int) (a2 : Int), v5 = .int .i64 b8 ∧ j2 = .int .i64 a2 ∧ Aside0 (impl_Val_measure.l0 kq a1 b8 a0 (a0.length : Int) a2 = some r) ∧ Aside0 (kq ≤ h2) ∧ Aside0 (w'.heap[e4]? = some (.cells #[.int .i64 a5, .int .i64 a6, .string a7, (.slice a9 a0.length b0), (.slice b1 a4.length b2)] 30 (0, 0))) ∧ Aside0 (Below w.heap.size w w'))
     case atStart => exact ⟨(1), (0), zS, zS, H', ⟨Nat.le_refl _⟩, ⟨zK a3.out⟩, ⟨zW HB.out⟩⟩
     case round =>
      clear H'
      try clear c1
      try clear c2
      try clear p2
      try clear c5
      try clear a8
      try clear c10
      try clear i0 i1 i2 i3 i4 i5 i6 i7 i8 i9
      try clear e6 e7 e8 e9 f5 f6 f7 f8 f9 g0
      try clear p2
      obtain ⟨b8, a2, rfl, rfl, HA, d7, a3, HB⟩ := hrel
      cases gk with
      | zero => exact absurd HA.out (by simp [impl_Val_measure.l0])
      | succ k3 =>
       have H := HA.out; clear HA; simp only [impl_Val_measure.l0] at H; replace H := zI0 H
       rcases H with ⟨j3, H⟩ | ⟨j3, H⟩
       ·replace H := zD0 H; obtain ⟨k1, H⟩ := H; replace H := zD0 H; obtain ⟨k2, H⟩ := H; replace H := Option.bind_eq_some_iff.mp H; obtain ⟨c0, h3, H⟩ := H
        try dsimp only at H
        have h4 := zA h3; clear h3; replace H := zI1 H
        rcases H with ⟨c3, H⟩ | ⟨c3, H⟩
        ·have j4 : decide (80 < (wrap64 (b8 + c0))) = true := decide_eq_true c3; clear c3; obtain rfl := zm H; have b3 : 0 ≤ (a2 : Int) := zD; have b4 : a2 < (a0.length : Int) := zD; obtain ⟨j5, b5, b6, c4, c6, g2, c7, c8, c9, d0, d1, d2, d3, d4, d5⟩ := at_T30 e2.out a2 b3 b4; cases g2; replace c7 := zx HB c7; replace c8 := zx HB c8; replace c9 := zx HB c9; replace d0 := zx HB d0; replace d1 := zx HB d1; have g3 := zA d3; have g4 := zA d2; clear d3 d2; have g5 := zA d5; have g6 := zA d4; clear d5 d4; replace b3 := eq_true b3; replace b4 := eq_true b4
         go_wp2_with (first | ((with_reducible refine zd 7 ?_); refine ze 7 30 #[.int .i64 0, .int .i64 0, .string (⟨#[]⟩ : ByteArray), .slice none 0 0, .slice none 0 0] ?_; intro g7 hg k4 hbox hb; have b7 := zA (hbox); have j6 := zi HB hg; have j7 := zi HB hg; replace HB := zh HB hb; have g8 := zA (zL hg (zK a3.out)); have g9 := zA (zJ hg (zK a3.out)); replace a3 := zb a3 hb; clear hb hbox hg; have k5 := g9.out; have k6 := g8.out; obtain ⟨k7, k8, k9, l1, l2, l3, l4, l5, l6, l7⟩ := ze5 b7.out) | ((with_reducible refine zq 22 ?_); refine zg (some 26) Tryd.func22 #[.agg #[.int .i64 ((rd_T30 a0 a2).f0), .int .i64 ((rd_T30 a0 a2).f1), .string ((rd_T30 a0 a2).f2), .slice b5 ((rd_T30 a0 a2).f3).length b6, .slice c4 ((rd_T30 a0 a2).f4).length c6], .int .i64 (wrap64 (a1 + 1))] ?_; (with_reducible refine (ih k3 (by have := b9.out; have := d6.out; have := d7.out; omega) ((rd_T30 a0 a2).f0) ((rd_T30 a0 a2).f1) ((rd_T30 a0 a2).f2) _ _ ((rd_T30 a0 a2).f3) _ _ ((rd_T30 a0 a2).f4) (wrap64 (a1 + 1)) c0 _ ?s1 ?s2 ?s3 ?s4 h4.out).mono ?_); (case s1 => exact Kd.C_below g3.out (zW HB.out)); (case s2 => exact g4.out); (case s3 => exact Kd.C_below g5.out (zW HB.out)); (case s4 => exact g6.out); rintro e l8 ⟨rfl, hb⟩; refine ⟨_, rfl, ?_⟩; replace a3 := zb a3 hb; replace b7 := zA (blk_below (g := g7) (o := .cells #[.int .i64 ((rd_T30 a0 a2).f0), .int .i64 ((rd_T30 a0 a2).f1), .string ((rd_T30 a0 a2).f2), .slice b5 ((rd_T30 a0 a2).f3).length b6, .slice c4 ((rd_T30 a0 a2).f4).length c6] 30 (0, 0)) (by (with_reducible repeat (first | refine blk_drewN ?_ _ | refine blk_drew ?_ | refine blk_alloc ?_ _)); refine blk_put (cs := #[.int .i64 ((rd_T30 a0 a2).f0), .int .i64 ((rd_T30 a0 a2).f1), .string ((rd_T30 a0 a2).f2), .slice b5 ((rd_T30 a0 a2).f3).length b6, .slice none 0 0]) ?_ 4 _ rfl; (with_reducible repeat (first | refine blk_drewN ?_ _ | refine blk_drew ?_ | refine blk_alloc ?_ _)); refine blk_put (cs := #[.int .i64 ((rd_T30 a0 a2).f0), .int .i64 ((rd_T30 a0 a2).f1), .string ((rd_T30 a0 a2).f2), .slice none 0 0, .slice none 0 0]) ?_ 3 _ rfl; (with_reducible repeat (first | refine blk_drewN ?_ _ | refine blk_drew ?_ | refine blk_alloc ?_ _)); refine blk_put (cs := #[.int .i64 ((rd_T30 a0 a2).f0), .int .i64 ((rd_T30 a0 a2).f1), .string (⟨#[]⟩ : ByteArray), .slice none 0 0, .slice none 0 0]) ?_ 2 _ rfl; (with_reducible repeat (first | refine blk_drewN ?_ _ | refine blk_drew ?_ | refine blk_alloc ?_ _)); refine blk_put (cs := #[.int .i64 ((rd_T30 a0 a2).f0), .int .i64 0, .string (⟨#[]⟩ : ByteArray), .slice none 0 0, .slice none 0 0]) ?_ 1 _ rfl; (with_reducible repeat (first | refine blk_drewN ?_ _ | refine blk_drew ?_ | refine blk_alloc ?_ _)); refine blk_put (cs := #[.int .i64 0, .int .i64 0, .string (⟨#[]⟩ : ByteArray), .slice none 0 0, .slice none 0 0]) ?_ 0 _ rfl; (with_reducible repeat (first | refine blk_drewN ?_ _ | refine blk_drew ?_ | refine blk_alloc ?_ _)); exact b7.out) hb); replace HB := zh HB hb; (try clear hb)))
         go_ret
         exact ⟨zE, zW HB.out⟩
        have j4 : decide (80 < (wrap64 (b8 + c0))) = false := decide_eq_false c3; clear c3; have H' := zA H; clear H; have b3 : 0 ≤ (a2 : Int) := zD; have b4 : a2 < (a0.length : Int) := zD; obtain ⟨j5, b5, b6, c4, c6, g2, c7, c8, c9, d0, d1, d2, d3, d4, d5⟩ := at_T30 e2.out a2 b3 b4; cases g2; replace c7 := zx HB c7; replace c8 := zx HB c8; replace c9 := zx HB c9; replace d0 := zx HB d0; replace d1 := zx HB d1; have g3 := zA d3; have g4 := zA d2; clear d3 d2; have g5 := zA d5; have g6 := zA d4; clear d5 d4; replace b3 := eq_true b3; replace b4 := eq_true b4
        go_wp2_with (first | ((with_reducible refine zd 7 ?_); refine ze 7 30 #[.int .i64 0, .int .i64 0, .string (⟨#[]⟩ : ByteArray), .slice none 0 0, .slice none 0 0] ?_; intro g7 hg l9 hbox hb; have b7 := zA (hbox); have j6 := zi HB hg; have j7 := zi HB hg; replace HB := zh HB hb; have g8 := zA (zL hg (zK a3.out)); have g9 := zA (zJ hg (zK a3.out)); replace a3 := zb a3 hb; clear hb hbox hg; have m0 := g9.out; have m1 := g8.out; obtain ⟨m2, m3, m4, m5, m6, m7, m8, m9, n0, n1⟩ := ze5 b7.out) | ((with_reducible refine zq 22 ?_); refine zg (some 26) Tryd.func22 #[.agg #[.int .i64 ((rd_T30 a0 a2).f0), .int .i64 ((rd_T30 a0 a2).f1), .string ((rd_T30 a0 a2).f2), .slice b5 ((rd_T30 a0 a2).f3).length b6, .slice c4 ((rd_T30 a0 a2).f4).length c6], .int .i64 (wrap64 (a1 + 1))] ?_; (with_reducible refine (ih k3 (by have := b9.out; have := d6.out; have := d7.out; omega) ((rd_T30 a0 a2).f0) ((rd_T30 a0 a2).f1) ((rd_T30 a0 a2).f2) _ _ ((rd_T30 a0 a2).f3) _ _ ((rd_T30 a0 a2).f4) (wrap64 (a1 + 1)) c0 _ ?s1 ?s2 ?s3 ?s4 h4.out).mono ?_); (case s1 => exact Kd.C_below g3.out (zW HB.out)); (case s2 => exact g4.out); (case s3 => exact Kd.C_below g5.out (zW HB.out)); (case s4 => exact g6.out); rintro e n2 ⟨rfl, hb⟩; refine ⟨_, rfl, ?_⟩; replace a3 := zb a3 hb; replace b7 := zA (blk_below (g := g7) (o := .cells #[.int .i64 ((rd_T30 a0 a2).f0), .int .i64 ((rd_T30 a0 a2).f1), .string ((rd_T30 a0 a2).f2), .slice b5 ((rd_T30 a0 a2).f3).length b6, .slice c4 ((rd_T30 a0 a2).f4).length c6] 30 (0, 0)) (by (with_reducible repeat (first | refine blk_drewN ?_ _ | refine blk_drew ?_ | refine blk_alloc ?_ _)); refine blk_put (cs := #[.int .i64 ((rd_T30 a0 a2).f0), .int .i64 ((rd_T30 a0 a2).f1), .string ((rd_T30 a0 a2).f2), .slice b5 ((rd_T30 a0 a2).f3).length b6, .slice none 0 0]) ?_ 4 _ rfl; (with_reducible repeat (first | refine blk_drewN ?_ _ | refine blk_drew ?_ | refine blk_alloc ?_ _)); refine blk_put (cs := #[.int .i64 ((rd_T30 a0 a2).f0), .int .i64 ((rd_T30 a0 a2).f1), .string ((rd_T30 a0 a2).f2), .slice none 0 0, .slice none 0 0]) ?_ 3 _ rfl; (with_reducible repeat (first | refine blk_drewN ?_ _ | refine blk_drew ?_ | refine blk_alloc ?_ _)); refine blk_put (cs := #[.int .i64 ((rd_T30 a0 a2).f0), .int .i64 ((rd_T30 a0 a2).f1), .string (⟨#[]⟩ : ByteArray), .slice none 0 0, .slice none 0 0]) ?_ 2 _ rfl; (with_reducible repeat (first | refine blk_drewN ?_ _ | refine blk_drew ?_ | refine blk_alloc ?_ _)); refine blk_put (cs := #[.int .i64 ((rd_T30 a0 a2).f0), .int .i64 0, .string (⟨#[]⟩ : ByteArray), .slice none 0 0, .slice none 0 0]) ?_ 1 _ rfl; (with_reducible repeat (first | refine blk_drewN ?_ _ | refine blk_drew ?_ | refine blk_alloc ?_ _)); refine blk_put (cs := #[.int .i64 0, .int .i64 0, .string (⟨#[]⟩ : ByteArray), .slice none 0 0, .slice none 0 0]) ?_ 0 _ rfl; (with_reducible repeat (first | refine blk_drewN ?_ _ | refine blk_drew ?_ | refine blk_alloc ?_ _)); exact b7.out) hb); replace HB := zh HB hb; (try clear hb)))
        go_roundg k3
        case measure => have := b9.out; have := d6.out; have := d7.out; omega
        case rel => exact ⟨(wrap64 (b8 + c0)), (wrap64 (a2 + 1)), zS, zS, H', ⟨by have := b9.out; have := d6.out; have := d7.out; omega⟩, ⟨zK a3.out⟩, ⟨zW HB.out⟩⟩
       obtain rfl := zm H
       go_wp2
       go_ret
       exact ⟨zE, zW HB.out⟩
/-! ### impl_ValOk: function 15 -/
def impl_ValOk.f (k : Nat) (a0 a1 : Int) (a2 : ByteArray) (a3 : List (S30)) (a4 : List ByteArray) : Option (Bool) := (impl_Val_measure.f k a0 a1 a2 a3 a4 1).bind fun a5 => (some (decide (a5 ≤ 80)))
theorem impl_ValOk.calls (k : Nat) (a2 a3 : Int) (a4 : ByteArray) (a5 : Option Addr) (a6 : Nat) (a0 : List (S30)) (a7 : Option Addr) (a8 : Nat) (a1 : List ByteArray) (r : Bool) (w : World) (b0 : Kd.C k30 w a5 a0.length a0) (b1 : a0.length ≤ a6) (b2 : Kd.C Kd.string w a7 a1.length a1) (b3 : a1.length ≤ a8) (h : impl_ValOk.f k a2 a3 a4 a0 a1 = some r) :
  Calls Tryd.prog 15 #[.agg #[.int .i64 a2, .int .i64 a3, .string a4, .slice a5 a0.length a6, .slice a7 a1.length a8]] w fun e w' => e = .returned (.bool r) ∧ Below w.heap.size w w' := by
 have c0 := Tryd.underlying30
 have b5 := zA b0
 have b6 := zA b1
 clear b0 b1
 have b7 := zA b2
 have b8 := zA b3
 clear b2 b3
 have HB := zA (Below.refl w.heap.size w)
 unfold impl_ValOk.f at h
 have H := h
 clear h
 replace H := Option.bind_eq_some_iff.mp H
 obtain ⟨b9, b4, H⟩ := H
 try dsimp only at H
 have A2 := zA b4
 clear b4
 obtain rfl := zm H
 go_enter Tryd.func15, Tryd.ntmps15
 go_wp2_with (first | ((with_reducible refine zd 1 ?_); refine ze 1 30 #[.int .i64 a2, .int .i64 a3, .string a4, .slice a5 a0.length a6, .slice a7 a1.length a8] ?_; intro c1 hg w3 hbox hb; have a9 := zA (hbox); have c2 := zi HB hg; have c3 := zi HB hg; replace HB := zA (below_step (zB) hb); clear hb hbox hg; obtain ⟨c4, c5, c6, c7, c8, c9, d0, d1, d2, d3⟩ := ze5 a9.out) | ((with_reducible refine zq 22 ?_); refine zg (some 4) Tryd.func22 #[.agg #[.int .i64 a2, .int .i64 a3, .string a4, .slice a5 a0.length a6, .slice a7 a1.length a8], .int .i64 1] ?_; (with_reducible refine (impl_Val_measure.calls k a2 a3 a4 _ _ a0 _ _ a1 1 b9 _ ?s1 ?s2 ?s3 ?s4 A2.out).mono ?_); (case s1 => exact zC (Kd.C_below b5.out HB.out)); (case s2 => exact b6.out); (case s3 => exact zC (Kd.C_below b7.out HB.out)); (case s4 => exact b8.out); rintro e w5 ⟨rfl, hb⟩; refine ⟨_, rfl, ?_⟩; replace a9 := zb a9 hb; replace HB := zh HB hb; (try clear hb)))
 go_ret
 exact ⟨zE, zW HB.out⟩
/-! ### strconv_Itoa: function 23 -/
def strconv_Itoa.f (a0 : Int) : Option ByteArray := if -9223372036854775808 ≤ a0 ∧ a0 ≤ 9223372036854775807 then some ⟨(Lib.itoa a0).toArray⟩ else none
theorem strconv_Itoa.calls (a0 : Int) (r : ByteArray) (w : World) (hG : GW w) (h : strconv_Itoa.f a0 = some r) :
  Calls Tryd.prog 23 #[.int .i64 a0] w fun e w' => e = .returned (.string r) ∧ Below w.heap.size w w' := by
 unfold strconv_Itoa.f at h
 split at h
 ·rename_i hs
  obtain rfl := Option.some.inj h
  refine (Tryd.strconv_Itoa a0 hs.1 hs.2 w hG.pow10).mono ?_
  rintro e w' ⟨rfl, k, os, rfl⟩
  exact ⟨rfl, Lb.below_grow w k os⟩
 ·cases h
/-! ### impl_quoted: function 24 -/
def impl_quoted.ren : Go.Shelf.Ren := ⟨fun | 167 => 30 | 240 => 42 | 276 => 50 | n => n, fun | 31 => 23 | 9 => 9 | 3 => 3 | 4 => 4 | 0 => 0 | 20 => 20 | 72 => 52 | 70 => 49 | 37 => 50 | 75 => 54 | 164 => 73 | 5 => 5 | 80 => 39 | n => n, fun | n => n⟩
theorem impl_quoted.lays : Go.Proofs.Lays.n167 Tryd.prog impl_quoted.ren := {
 mixed := by kernel_rfl
 f167 := Tryd.func30.trans (congrArg some (by kernel_rfl))
 f240 := Tryd.func42.trans (congrArg some (by kernel_rfl))
 f276 := Tryd.func50.trans (congrArg some (by kernel_rfl))
 t0 := Tryd.underlying0
 a0 := Tryd.isAgg0
 z0 := Tryd.sizeOf0
 v0 := Tryd.zeroValue0
 t4 := Tryd.underlying4
 a4 := Tryd.isAgg4
 z4 := Tryd.sizeOf4
 v4 := Tryd.zeroValue4
 t5 := Tryd.underlying5
 a5 := Tryd.isAgg5
 z5 := Tryd.sizeOf5
 v5 := Tryd.zeroValue5
 t9 := Tryd.underlying9
 a9 := Tryd.isAgg9
 z9 := Tryd.sizeOf9
 v9 := Tryd.zeroValue9
 t20 := Tryd.underlying20
 a20 := Tryd.isAgg20
 z20 := Tryd.sizeOf20
 v20 := Tryd.zeroValue20
 t37 := Tryd.underlying50
 a37 := Tryd.isAgg50
 z37 := Tryd.sizeOf50
 v37 := Tryd.zeroValue50
 t70 := Tryd.underlying49
 a70 := Tryd.isAgg49
 z70 := Tryd.sizeOf49
 v70 := Tryd.zeroValue49
 t72 := Tryd.underlying52
 a72 := Tryd.isAgg52
 z72 := Tryd.sizeOf52
 v72 := Tryd.zeroValue52
 t75 := Tryd.underlying54
 a75 := Tryd.isAgg54
 z75 := Tryd.sizeOf54
 v75 := Tryd.zeroValue54
 t164 := Tryd.underlying73
 a164 := Tryd.isAgg73
 z164 := Tryd.sizeOf73
 v164 := Tryd.zeroValue73 }
theorem impl_quoted.extra : Builder.Extra Tryd.prog impl_quoted.ren := {
 sizeBuilder := by kernel_rfl
 liesBuilder := by kernel_rfl
 t5 := Tryd.underlying5
 a5 := Tryd.isAgg5
 z5 := Tryd.sizeOf5
 v5 := Tryd.zeroValue5
 infoByte := by kernel_rfl
 cellsByte := by kernel_rfl
 sizeByte := by kernel_rfl
 neB5 := by decide }
theorem impl_quoted.extra' : Builder.Extra Tryd.prog Tryd.lays156_ren := {
 sizeBuilder := by kernel_rfl
 liesBuilder := by kernel_rfl
 t5 := Tryd.underlying5
 a5 := Tryd.isAgg5
 z5 := Tryd.sizeOf5
 v5 := Tryd.zeroValue5
 infoByte := by kernel_rfl
 cellsByte := by kernel_rfl
 sizeByte := by kernel_rfl
 neB5 := by decide }
/-- A builder of the call's own that holds these bytes. -/
def impl_quoted.Bd (b : Nat) (l : List UInt8) (w0 w : World) : Prop := Lib.IsBuilder 52 5 w0.heap.size b (Lib.byteCells l) w ∧ Below w0.heap.size w0 w
theorem impl_quoted.wbyte (b : Nat) (l : List UInt8) (c : UInt8) (x : Int) (w0 w : World) (hx : x = (c.toNat : Int)) (h : impl_quoted.Bd b l w0 w) (hl : l.length + 1 ≤ 140737488355328) :
  Calls Tryd.prog 30 #[.pointer (some ⟨b, 0, none⟩), .int .u8 x] w fun e w' => e = .returned .nilIface ∧ impl_quoted.Bd b (l ++ [c]) w0 w' := by
 subst hx
 refine (Any.Builder_WriteByte impl_quoted.lays impl_quoted.extra w0.heap.size b (Lib.byteCells l) _ w h.1 (by rw [Lib.byteCells_length]; exact hl) h.2.size).mono ?_
 rintro e w' ⟨rfl, hb, hw⟩
 refine ⟨rfl, .inr ?_, h.2.trans hw⟩
 rw [Lib.byteCells_append]
 exact hb
theorem impl_quoted.wstr (b : Nat) (l : List UInt8) (s : ByteArray) (w0 w : World) (h : impl_quoted.Bd b l w0 w) (hl : l.length + s.size ≤ 140737488355328) :
  Calls Tryd.prog 31 #[.pointer (some ⟨b, 0, none⟩), .string s] w fun e w' => e = .returned (.tuple #[.int .i64 s.size, .nilIface]) ∧ impl_quoted.Bd b (l ++ s.data.toList) w0 w' := by
 refine (Any.Builder_WriteString { Tryd.lays156 with } impl_quoted.extra' w0.heap.size b (Lib.byteCells l) s w h.1 (by rw [Lib.byteCells_length]; exact hl) h.2.size).mono ?_
 rintro e w' ⟨rfl, hb, hw⟩
 refine ⟨rfl, .inr ?_, h.2.trans hw⟩
 rw [Lib.byteCells_append]
 exact hb
theorem impl_quoted.wtext (b : Nat) (l l' m : List UInt8) (s : ByteArray) (w0 w : World) (hs : s.data.toList = m) (h : impl_quoted.Bd b l w0 w) (hl : l.length + m.length ≤ 140737488355328) (hl' : l ++ m = l') :
  Calls Tryd.prog 31 #[.pointer (some ⟨b, 0, none⟩), .string s] w fun e w' => e = .returned (.tuple #[.int .i64 s.size, .nilIface]) ∧ impl_quoted.Bd b l' w0 w' := by
 subst hs
 subst hl'
 exact impl_quoted.wstr b l s w0 w h (by rw [Array.length_toList] at hl; exact hl)
theorem impl_quoted.str (b : Nat) (l : List UInt8) (w0 w : World) (h : impl_quoted.Bd b l w0 w) (h0 : l ≠ []) :
  Calls Tryd.prog 32 #[.pointer (some ⟨b, 0, none⟩)] w fun e w' => e = .returned (.string ⟨l.toArray⟩) ∧ Below w0.heap.size w0 w' := by
 refine (Tryd.Builder_String w0.heap.size b l w h.1 h0).mono ?_
 rintro e w' ⟨rfl, hw⟩
 exact ⟨rfl, h.2.trans hw⟩
/-- What stands for a byte within quotes. -/
def impl_quoted.esc (c : UInt8) : List UInt8 := if c = 34 then [92, 34] else if c = 92 then [92, 92] else if c = 10 then [92, 110] else if c = 9 then [92, 116] else [c]
def impl_quoted.f (a0 : ByteArray) : Option ByteArray := if a0.size ≤ 70368744177000 then some ⟨(34 :: (a0.data.toList.flatMap impl_quoted.esc ++ [34])).toArray⟩ else none
theorem impl_quoted.esc_len (c : UInt8) : (impl_quoted.esc c).length ≤ 2 := by 
 unfold impl_quoted.esc
 split
 ·exact Nat.le_refl 2
 split
 ·exact Nat.le_refl 2
 split
 ·exact Nat.le_refl 2
 split
 ·exact Nat.le_refl 2
 exact Nat.le_succ 1
theorem impl_quoted.pre_len (l : List UInt8) : (l.flatMap impl_quoted.esc).length ≤ 2 * l.length := by
 induction l with
 | nil => simp
 | cons c l ih => have := impl_quoted.esc_len c; rw [List.flatMap_cons, List.length_append, List.length_cons]; omega
/-- What is written when i bytes are read. -/
def impl_quoted.out (s : ByteArray) (i : Nat) : List UInt8 := 34 :: (s.data.toList.take i).flatMap impl_quoted.esc
theorem impl_quoted.out_len (s : ByteArray) (i : Nat) (h : i ≤ s.size) : (impl_quoted.out s i).length ≤ 2 * s.size + 1 := by
 have := impl_quoted.pre_len (s.data.toList.take i)
 have : (s.data.toList.take i).length ≤ s.size := by rw [List.length_take, Array.length_toList]; exact Nat.min_le_right _ _
 unfold impl_quoted.out
 rw [List.length_cons]
 omega
theorem impl_quoted.out_step (s : ByteArray) (i : Nat) (h : i < s.size) : impl_quoted.out s (i + 1) = impl_quoted.out s i ++ impl_quoted.esc s[i] := by
 unfold impl_quoted.out
 rw [List.take_succ_eq_append_getElem (by rw [Array.length_toList]; exact h), List.flatMap_append, List.flatMap_cons, List.flatMap_nil, List.append_nil, List.cons_append]
 rfl
theorem impl_quoted.bd (b : Nat) (l l' : List UInt8) (w0 w w' : World) (h : impl_quoted.Bd b l w0 w) (hl : l = l') (hw : w.heap = w'.heap ∧ w.os = w'.os ∧ w.tape = w'.tape ∧ w.output = w'.output) : impl_quoted.Bd b l' w0 w' := by
 subst hl
 obtain ⟨hh, ho, ht, hq⟩ := hw
 obtain ⟨h1, h2⟩ := h
 refine ⟨?_, ⟨by rw [← ho]; exact h2.os, by rw [← ht]; exact h2.tape, by rw [← hq]; exact h2.output, by rw [← hh]; exact h2.size, fun i hi => by rw [← hh]; exact h2.block i hi⟩⟩
 have e : ∀ p, Lib.BuilderAt 52 5 w0.heap.size b p (Lib.byteCells l) w → Lib.BuilderAt 52 5 w0.heap.size b p (Lib.byteCells l) w' := by
  rintro p ⟨hB, v, hb, ho, hn⟩
  refine ⟨hB, v, by rw [← hh]; exact hb, own_move ho (fun k hk => by rw [hh]), hn⟩
 rcases h1 with h1 | h1
 ·exact .inl (e _ h1)
 ·exact .inr (e _ h1)
set_option maxHeartbeats 4000000 in
set_option maxRecDepth 100000 in
theorem impl_quoted.calls (a0 r : ByteArray) (w : World) (h : impl_quoted.f a0 = some r) :
  Calls Tryd.prog 24 #[.string a0] w fun e w' => e = .returned (.string r) ∧ Below w.heap.size w w' := by
 unfold impl_quoted.f at h
 split at h
 case isFalse => cases h
 rename_i hs
 have HR := zA (Option.some.inj h)
 clear h
 have HS := zA hs
 have hs' : a0.size ≤ 9223372036854775807 := by omega
 clear hs
 have HB := zA (show impl_quoted.Bd w.heap.size [] w (w.alloc (.cells #[.pointer none, .slice none 0 0] 52)) from ⟨Lib.fresh_isBuilder _ _ w, below_alloc (Below.refl _ _) _⟩)
 go_enter Tryd.func24, Tryd.ntmps24
 go_wp2_with (go_at_call 30; (with_reducible refine (impl_quoted.wbyte w.heap.size [] 34 34 w _ rfl (impl_quoted.bd _ _ _ _ _ _ HB.out rfl ⟨rfl, rfl, rfl, rfl⟩) (by decide)).mono ?_); rintro e w2 ⟨rfl, hb⟩)
 have HQ := zA (show impl_quoted.Bd w.heap.size (impl_quoted.out a0 0) w w2 from hb)
 clear hb HB
 go_loopg [4] a0.size (fun gg s4 wr => ∃ kk : Nat, kk ≤ a0.size ∧ a0.size - kk ≤ gg ∧ s4 = .int .i64 kk ∧ Aside0 (impl_quoted.Bd w.heap.size (impl_quoted.out a0 kk) w wr))
 case atStart => exact ⟨0, Nat.zero_le _, by omega, rfl, ⟨impl_quoted.bd _ _ _ _ _ _ HQ.out rfl ⟨rfl, rfl, rfl, rfl⟩⟩⟩
 case round =>
  clear HQ; obtain ⟨kk, hkk, hg, rfl, HQ⟩ := hrel; have HG := zA hg; have HK := zA hkk; clear hg
  by_cases hlt : kk < a0.size
  ·have HO := zA (impl_quoted.out_step a0 kk hlt); have HL := zA (impl_quoted.out_len a0 kk (by omega))
   have fin : ∀ l, impl_quoted.esc a0[kk] = l → impl_quoted.out a0 kk ++ l = impl_quoted.out a0 (kk + 1) := fun l hl => by rw [HO.out, hl]
   have FIN := zA fin; clear fin hkk
   have hx : ∀ (c : UInt8) (n : Int), (c.toNat : Int) = n → a0[kk] ≠ c → (((a0[kk].toNat : Nat) : Int) == n) = false := fun c n hc hn => beq_eq_false_iff_ne.mpr (fun e => hn (UInt8.toNat_inj.1 (by omega)))
   have hy : ∀ (c : UInt8) (n : Int), (c.toNat : Int) = n → a0[kk] = c → (((a0[kk].toNat : Nat) : Int) == n) = true := fun c n hc hn => beq_iff_eq.mpr (by rw [hn]; exact hc)
   have hcut : ∀ c, a0[kk] = c → ((⟨#[92]⟩ : ByteArray) ++ a0.extract kk (kk + 1)).data.toList = [92, c] := fun c hc => by
    subst hc; rw [ByteArray.data_append, Array.toList_append]
    simp only [ByteArray.data_extract, Array.toList_extract, List.extract_eq_take_drop, Nat.add_sub_cancel_left]
    rw [List.drop_eq_getElem_cons (by rw [Array.length_toList]; exact hlt)]
    rfl
   have HC := zA hcut; clear hcut
   by_cases a1 : a0[kk] = 34
   ·have a7 := hy 34 34 rfl a1; have HE := zA (FIN.out [92, 34] (by rw [a1]; rfl)); have HX := zA a1; clear hx hy a1
    go_wp2_with fail
    (with_reducible refine (impl_quoted.wtext w.heap.size (impl_quoted.out a0 kk) (impl_quoted.out a0 (kk + 1)) [92, 34] _ w _ (HC.out 34 HX.out) (impl_quoted.bd _ _ _ _ _ _ HQ.out rfl ⟨rfl, rfl, rfl, rfl⟩) (by have := HL.out; have := HS.out; simp only [List.length_cons, List.length_nil]; omega) HE.out).mono ?_)
    rintro e w3 ⟨rfl, hb⟩
    go_wp2
    go_roundg (a0.size - (kk + 1))
    case measure => have := HG.out; omega
    case rel => exact ⟨kk + 1, hlt, Nat.le_refl _, by go_num, ⟨impl_quoted.bd _ _ _ _ _ _ hb rfl ⟨rfl, rfl, rfl, rfl⟩⟩⟩
   have a8 := hx 34 34 rfl a1; have a4 := zA a1; clear a1
   by_cases a2 : a0[kk] = 92
   ·have a9 := hy 92 92 rfl a2; have HE := zA (FIN.out [92, 92] (by rw [a2]; rfl)); have HX := zA a2; clear hx hy a2
    go_wp2_with fail
    (with_reducible refine (impl_quoted.wtext w.heap.size (impl_quoted.out a0 kk) (impl_quoted.out a0 (kk + 1)) [92, 92] _ w _ (HC.out 92 HX.out) (impl_quoted.bd _ _ _ _ _ _ HQ.out rfl ⟨rfl, rfl, rfl, rfl⟩) (by have := HL.out; have := HS.out; simp only [List.length_cons, List.length_nil]; omega) HE.out).mono ?_)
    rintro e w3 ⟨rfl, hb⟩
    go_wp2
    go_roundg (a0.size - (kk + 1))
    case measure => have := HG.out; omega
    case rel => exact ⟨kk + 1, hlt, Nat.le_refl _, by go_num, ⟨impl_quoted.bd _ _ _ _ _ _ hb rfl ⟨rfl, rfl, rfl, rfl⟩⟩⟩
   have b0 := hx 92 92 rfl a2; have a5 := zA a2; clear a2
   by_cases a3 : a0[kk] = 10
   ·have b1 := hy 10 10 rfl a3; have HE := zA (FIN.out [92, 110] (by rw [a3]; rfl)); have HX := zA a3; clear hx hy a3
    go_wp2_with fail
    (with_reducible refine (impl_quoted.wtext w.heap.size (impl_quoted.out a0 kk) (impl_quoted.out a0 (kk + 1)) [92, 110] _ w _ (rfl) (impl_quoted.bd _ _ _ _ _ _ HQ.out rfl ⟨rfl, rfl, rfl, rfl⟩) (by have := HL.out; have := HS.out; simp only [List.length_cons, List.length_nil]; omega) HE.out).mono ?_)
    rintro e w3 ⟨rfl, hb⟩
    go_wp2
    go_roundg (a0.size - (kk + 1))
    case measure => have := HG.out; omega
    case rel => exact ⟨kk + 1, hlt, Nat.le_refl _, by go_num, ⟨impl_quoted.bd _ _ _ _ _ _ hb rfl ⟨rfl, rfl, rfl, rfl⟩⟩⟩
   have b2 := hx 10 10 rfl a3; have a6 := zA a3; clear a3
   by_cases h9 : a0[kk] = 9
   ·have b9 := hy 9 9 rfl h9; have HE := zA (FIN.out [92, 116] (by rw [h9]; rfl)); have HX := zA h9; clear hx hy h9
    go_wp2_with fail
    (with_reducible refine (impl_quoted.wtext w.heap.size (impl_quoted.out a0 kk) (impl_quoted.out a0 (kk + 1)) [92, 116] _ w _ (rfl) (impl_quoted.bd _ _ _ _ _ _ HQ.out rfl ⟨rfl, rfl, rfl, rfl⟩) (by have := HL.out; have := HS.out; simp only [List.length_cons, List.length_nil]; omega) HE.out).mono ?_)
    rintro e w3 ⟨rfl, hb⟩
    go_wp2
    go_roundg (a0.size - (kk + 1))
    case measure => have := HG.out; omega
    case rel => exact ⟨kk + 1, hlt, Nat.le_refl _, by go_num, ⟨impl_quoted.bd _ _ _ _ _ _ hb rfl ⟨rfl, rfl, rfl, rfl⟩⟩⟩
   have n9 := hx 9 9 rfl h9; have N9 := zA h9; clear h9; have HE := zA (FIN.out [a0[kk]] (by unfold impl_quoted.esc; rw [if_neg a4.out, if_neg a5.out, if_neg a6.out, if_neg N9.out])); clear hx hy
   go_wp2_with fail
   (with_reducible refine (impl_quoted.wbyte w.heap.size (impl_quoted.out a0 kk) a0[kk] _ w _ rfl (impl_quoted.bd _ _ _ _ _ _ HQ.out rfl ⟨rfl, rfl, rfl, rfl⟩) (by have := HL.out; have := HS.out; omega)).mono ?_)
   rintro e w3 ⟨rfl, hb⟩
   go_wp2
   go_roundg (a0.size - (kk + 1))
   case measure => have := HG.out; omega
   case rel => exact ⟨kk + 1, hlt, Nat.le_refl _, by go_num, ⟨impl_quoted.bd _ _ _ _ _ _ hb HE.out ⟨rfl, rfl, rfl, rfl⟩⟩⟩
  obtain rfl : kk = a0.size := by omega
  have HL := zA (impl_quoted.out_len a0 a0.size (Nat.le_refl _))
  go_wp2_with fail
  (with_reducible refine (impl_quoted.wbyte w.heap.size (impl_quoted.out a0 a0.size) 34 34 w _ rfl (impl_quoted.bd _ _ _ _ _ _ HQ.out rfl ⟨rfl, rfl, rfl, rfl⟩) (by have := HL.out; have := HS.out; omega)).mono ?_)
  rintro e w3 ⟨rfl, hb⟩
  have HT := zA hb; clear hb
  go_wp2_with fail
  (with_reducible refine (impl_quoted.str w.heap.size _ w _ (impl_quoted.bd _ _ _ _ _ _ HT.out rfl ⟨rfl, rfl, rfl, rfl⟩) (by simp)).mono ?_)
  rintro e w4 ⟨rfl, hb⟩
  go_wp2
  go_ret
  refine ⟨?_, hb⟩
  rw [← HR.out]; unfold impl_quoted.out; rw [List.take_of_length_le (by rw [Array.length_toList]; exact Nat.le_refl _)]
  rfl
/-! ### strings_Join: function 25 -/
def strings_Join.f (l0 : List ByteArray) (a1 : ByteArray) : Option ByteArray := if (Lib.join (l0.map (·.data.toList)) a1.data.toList).length ≤ 140737488355328 ∧ l0.length ≤ 140737488355328 then some ⟨(Lib.join (l0.map (·.data.toList)) a1.data.toList).toArray⟩ else none
theorem strings_Join.calls (A0 : Option Addr) (c0 : Nat) (l0 : List ByteArray) (a1 r : ByteArray) (w : World) (a0 : Kd.C Kd.string w A0 l0.length l0) (a2 : l0.length ≤ c0) (h : strings_Join.f l0 a1 = some r) :
  Calls Tryd.prog 25 #[.slice A0 l0.length c0, .string a1] w fun e w' => e = .returned (.string r) ∧ Below w.heap.size w w' := by
 unfold strings_Join.f at h
 split at h
 ·rename_i hs
  obtain rfl := Option.some.inj h
  rcases l0 with _ | ⟨x, l⟩
  ·refine (Tryd.strings_Join_none A0 c0 a1 w).mono ?_
   rintro e w' ⟨rfl, rfl⟩
   exact ⟨rfl, Below.refl _ _⟩
  ·obtain ⟨b, o, rfl, hcell⟩ := Lb.C_string_plain a0 (by simp)
   exact Tryd.strings_Join b o c0 (x :: l) a1 w hcell (World.block_lt_of_cell? w _ (hcell 0 x rfl)) hs.2 a2 hs.1
 ·cases h
def impl_Val_text.pick (j : Int) : ByteArray := if j = 0 then (⟨#[102, 97, 108, 115, 101]⟩ : ByteArray) else (⟨#[116, 114, 117, 101]⟩ : ByteArray)
theorem impl_Val_text.pick_at (j : Int) (h0 : 0 ≤ j) (h1 : j < 2) : ∀ W : World, (Instr.index 46 (.agg #[.string (⟨#[102, 97, 108, 115, 101]⟩ : ByteArray), .string (⟨#[116, 114, 117, 101]⟩ : ByteArray)]) (.int .i64 j)).run Tryd.prog W = .ok (.string (impl_Val_text.pick j)) W := by
 intro W
 obtain rfl | rfl : j = 0 ∨ j = 1 := by omega
 ·kernel_rfl
 ·kernel_rfl
/-! ### impl_Val_text: function 16 -/
mutual
def impl_Val_text.l0 : Nat → List ByteArray → List (S30) → Int → Int → Int → Int → ByteArray → List (S30) → List ByteArray → Option (ByteArray)
 | 0, _, _, _, _, _, _, _, _, _ => none
 | k + 1, x3, a1, a4, a0, a2, a7, a8, a9, a3 => if a0 < a4 then (impl_Val_text.j1 k x3 a1 a4 a0 a2 a7 a8 a9 a3) else (if a2 = 5 then ((strings_Join.f x3 (⟨#[44]⟩ : ByteArray)).bind fun b0 => (if 1 + b0.size ≤ 9223372036854775807 then (if ((⟨#[123]⟩ : ByteArray) ++ b0).size + 1 ≤ 9223372036854775807 then (some (((⟨#[123]⟩ : ByteArray) ++ b0) ++ (⟨#[125]⟩ : ByteArray))) else (none)) else (none))) else ((strings_Join.f x3 (⟨#[44]⟩ : ByteArray)).bind fun b1 => (if 1 + b1.size ≤ 9223372036854775807 then (if ((⟨#[91]⟩ : ByteArray) ++ b1).size + 1 ≤ 9223372036854775807 then (some (((⟨#[91]⟩ : ByteArray) ++ b1) ++ (⟨#[93]⟩ : ByteArray))) else (none)) else (none))))
def impl_Val_text.j1 : Nat → List ByteArray → List (S30) → Int → Int → Int → Int → ByteArray → List (S30) → List ByteArray → Option (ByteArray)
 | 0, _, _, _, _, _, _, _, _, _ => none
 | k + 1, x3, a1, a4, a0, a2, a7, a8, a9, a3 => if 0 ≤ a0 then (if a0 < (a1.length : Int) then ((impl_Val_text.f k ((rd_T30 a1 a0).f0) ((rd_T30 a1 a0).f1) ((rd_T30 a1 a0).f2) ((rd_T30 a1 a0).f3) ((rd_T30 a1 a0).f4)).bind fun b2 => (if a2 = 5 then (if a0 < (a3.length : Int) then ((impl_quoted.f (rdOf ByteArray.empty a3 a0)).bind fun b3 => (if b3.size + 1 ≤ 9223372036854775807 then (if (b3 ++ (⟨#[58]⟩ : ByteArray)).size + b2.size ≤ 9223372036854775807 then (if x3.length < 8796093022208 then (impl_Val_text.l0 k (x3 ++ [(b3 ++ (⟨#[58]⟩ : ByteArray)) ++ b2]) a1 a4 (wrap64 (a0 + 1)) a2 a7 a8 a9 a3) else (none)) else (none)) else (none))) else (none)) else (if x3.length < 8796093022208 then (impl_Val_text.l0 k (x3 ++ [b2]) a1 a4 (wrap64 (a0 + 1)) a2 a7 a8 a9 a3) else (none)))) else (none)) else (none)
def impl_Val_text.f : Nat → Int → Int → ByteArray → List (S30) → List ByteArray → Option (ByteArray)
 | 0, _, _, _, _, _ => none
 | k + 1, a5, a6, b5, b4, b6 => if a5 = 0 then (some (⟨#[110, 117, 108, 108]⟩ : ByteArray)) else (if a5 = 1 then (if 0 ≤ a6 then (if a6 < 2 then (some (impl_Val_text.pick a6)) else (none)) else (none)) else (if a5 = 2 then ((strconv_Itoa.f a6).bind fun b7 => (some b7)) else (if a5 = 3 then ((impl_quoted.f b5).bind fun b8 => (some b8)) else (impl_Val_text.l0 k ([] : List ByteArray) b4 (b4.length : Int) 0 a5 a6 b5 b4 b6))))
end
theorem impl_Val_text.calls (k : Nat) : ∀ (a8 a5 : Int) (a6 : ByteArray) (b3 : Option Addr) (b0 : Nat) (a0 : List (S30)) (b2 : Option Addr) (b1 : Nat) (a4 : List ByteArray) (r : ByteArray) (w : World) (g1 : Kd.C k30 w b3 a0.length a0) (g2 : a0.length ≤ b0) (g3 : Kd.C Kd.string w b2 a4.length a4) (g4 : a4.length ≤ b1) (hG : GW w) (h : impl_Val_text.f k a8 a5 a6 a0 a4 = some r),
  Calls Tryd.prog 16 #[.agg #[.int .i64 a8, .int .i64 a5, .string a6, .slice b3 a0.length b0, .slice b2 a4.length b1]] w fun e w' => e = .returned (.string r) ∧ Below w.heap.size w w' := by
 induction k using Nat.strongRecOn with
 | _ k ih =>
 intro a8 a5 a6 b3 b0 a0 b2 b1 a4 r w g1 g2 g3 g4 hG h
 cases k with
 | zero => exact absurd h (by simp [impl_Val_text.f])
 | succ k =>
 simp only [impl_Val_text.f] at h
 have z1 := Tryd.underlying30
 have i7 := zA g1
 have z2 := zA g2
 clear g1 g2
 have q0 := zA g3
 have z3 := zA g4
 clear g3 g4
 have HG := zA hG
 clear hG
 have HB := zA (Below.refl w.heap.size w)
 have H := h
 clear h
 replace H := zI1 H
 rcases H with ⟨c2, H⟩ | ⟨c2, H⟩
 ·have g5 := beq_iff_eq.mpr c2; have g6 := bne_eq_false_iff_eq.mpr c2; clear c2; obtain rfl := zm H
  go_enter Tryd.func16, Tryd.ntmps16
  go_wp2_with (first | ((with_reducible refine zd 1 ?_); refine ze 1 30 #[.int .i64 a8, .int .i64 a5, .string a6, .slice b3 a0.length b0, .slice b2 a4.length b1] ?_; intro b7 hg w3 hbox hb; have a2 := zA (hbox); have e9 := zi HB hg; have f5 := zi HB hg; replace HB := zA (below_step (zB) hb); clear hb hbox hg; obtain ⟨i8, i9, j0, j2, j3, j4, j5, j6, j7, j8⟩ := ze5 a2.out))
  go_ret
  exact ⟨zE, zW HB.out⟩
 have g5 := beq_eq_false_iff_ne.mpr c2
 have g6 := bne_iff_ne.mpr c2
 replace H := zI1 H
 rcases H with ⟨c5, H⟩ | ⟨c5, H⟩
 ·have g7 := beq_iff_eq.mpr c5; have g8 := bne_eq_false_iff_eq.mpr c5; clear c5; replace H := zD0 H; obtain ⟨j9, H⟩ := H; replace H := zD0 H; obtain ⟨k0, H⟩ := H; obtain rfl := zm H
  go_enter Tryd.func16, Tryd.ntmps16
  go_wp2_with (first | ((with_reducible refine zd 1 ?_); refine ze 1 30 #[.int .i64 a8, .int .i64 a5, .string a6, .slice b3 a0.length b0, .slice b2 a4.length b1] ?_; intro b7 hg w9 hbox hb; have a2 := zA (hbox); have e9 := zi HB hg; have f5 := zi HB hg; replace HB := zA (below_step (zB) hb); clear hb hbox hg; obtain ⟨k2, k3, k4, k5, k6, k7, k8, k9, l1, l2⟩ := ze5 a2.out; have p8 : 0 ≤ (a5 : Int) := zD; have q8 : a5 < (2 : Int) := zD; have l3 := impl_Val_text.pick_at a5 p8 q8; replace p8 := eq_true p8; replace q8 := eq_true q8))
  go_ret
  exact ⟨zE, zW HB.out⟩
 have g7 := beq_eq_false_iff_ne.mpr c5
 have g8 := bne_iff_ne.mpr c5
 replace H := zI1 H
 rcases H with ⟨b8, H⟩ | ⟨b8, H⟩
 ·have g9 := beq_iff_eq.mpr b8; have h0 := bne_eq_false_iff_eq.mpr b8; clear b8; replace H := Option.bind_eq_some_iff.mp H; obtain ⟨q1, l4, H⟩ := H
  try dsimp only at H
  have q2 := zA l4; clear l4; obtain rfl := zm H
  go_enter Tryd.func16, Tryd.ntmps16
  go_wp2_with (first | ((with_reducible refine zd 1 ?_); refine ze 1 30 #[.int .i64 a8, .int .i64 a5, .string a6, .slice b3 a0.length b0, .slice b2 a4.length b1] ?_; intro b7 hg z4 hbox hb; have a2 := zA (hbox); have e9 := zi HB hg; have f5 := zi HB hg; replace HB := zA (below_step (zB) hb); clear hb hbox hg; obtain ⟨l5, l6, l7, l8, l9, m0, m1, m2, m3, m4⟩ := ze5 a2.out) | ((with_reducible refine zq 23 ?_); refine zg (some 21) Tryd.func23 #[.int .i64 a5] ?_; (with_reducible refine (strconv_Itoa.calls a5 q1 _ ?s1 q2.out).mono ?_); (case s1 => exact GW.below HG.out (zW HB.out)); rintro e z5 ⟨rfl, hb⟩; refine ⟨_, rfl, ?_⟩; replace a2 := zb a2 hb; replace HB := zh HB hb; (try clear hb)))
  go_ret
  exact ⟨zE, zW HB.out⟩
 have g9 := beq_eq_false_iff_ne.mpr b8
 have h0 := bne_iff_ne.mpr b8
 replace H := zI1 H
 rcases H with ⟨b9, H⟩ | ⟨b9, H⟩
 ·have h1 := beq_iff_eq.mpr b9; have h2 := bne_eq_false_iff_eq.mpr b9; clear b9; replace H := Option.bind_eq_some_iff.mp H; obtain ⟨q3, m5, H⟩ := H
  try dsimp only at H
  have q4 := zA m5; clear m5; obtain rfl := zm H
  go_enter Tryd.func16, Tryd.ntmps16
  go_wp2_with (first | ((with_reducible refine zd 1 ?_); refine ze 1 30 #[.int .i64 a8, .int .i64 a5, .string a6, .slice b3 a0.length b0, .slice b2 a4.length b1] ?_; intro b7 hg z6 hbox hb; have a2 := zA (hbox); have e9 := zi HB hg; have f5 := zi HB hg; replace HB := zA (below_step (zB) hb); clear hb hbox hg; obtain ⟨m6, m7, m8, m9, n0, n1, n2, n3, n4, n5⟩ := ze5 a2.out) | ((with_reducible refine zq 24 ?_); refine zg (some 26) Tryd.func24 #[.string a6] ?_; (with_reducible refine (impl_quoted.calls a6 q3 _ q4.out).mono ?_); rintro e z7 ⟨rfl, hb⟩; refine ⟨_, rfl, ?_⟩; replace a2 := zb a2 hb; replace HB := zh HB hb; (try clear hb)))
  go_ret
  exact ⟨zE, zW HB.out⟩
 have h1 := beq_eq_false_iff_ne.mpr b9
 have h2 := bne_iff_ne.mpr b9
 have H' := zA H
 clear H
 go_enter Tryd.func16, Tryd.ntmps16
 go_wp2_with (first | ((with_reducible refine zd 1 ?_); refine ze 1 30 #[.int .i64 a8, .int .i64 a5, .string a6, .slice b3 a0.length b0, .slice b2 a4.length b1] ?_; intro b7 hg z8 hbox hb; have a2 := zA (hbox); have e9 := zi HB hg; have f5 := zi HB hg; replace HB := zA (below_step (zB) hb); clear hb hbox hg; obtain ⟨n6, n7, n8, n9, o0, o1, o2, o3, o4, o5⟩ := ze5 a2.out))
 go_loopg [3, 30] k (fun kq v3 q5 w' => ∃ (a9 : List ByteArray) (a1 : Int), q5 = .int .i64 a1 ∧ Aside0 (impl_Val_text.l0 kq a9 a0 (a0.length : Int) a1 a8 a5 a6 a0 a4 = some r) ∧ Aside0 (kq ≤ k) ∧ Aside0 (Kd.R Kd.string 9 w' w.heap.size (fun _ => True) v3 a9) ∧ Aside0 (w'.heap[b7]? = some (.cells #[.int .i64 a8, .int .i64 a5, .string a6, (.slice b3 a0.length b0), (.slice b2 a4.length b1)] 30 (0, 0))) ∧ Aside0 (Below w.heap.size w w'))
 case atStart => exact ⟨(([] : List ByteArray)), (0), zS, H', ⟨Nat.le_refl _⟩, ⟨by first | exact Kd.R_nil _ _ _ _ _ | exact Kd.N_nil _ _ _ _ _ | exact Kd.V_nil _ _ _ _ _ | exact Kd.Q_nil _ _ _ _ _ | exact Kd.S_nil _ _ _ _ _⟩, ⟨zK a2.out⟩, ⟨zW HB.out⟩⟩
 case round =>
  clear H'
  try clear c1
  try clear c2
  try clear g5
  try clear g6
  try clear p2
  try clear c5
  try clear g7
  try clear g8
  try clear c6
  try clear j9
  try clear c7
  try clear k0
  try clear p8
  try clear q8
  try clear l3
  try clear b8
  try clear g9
  try clear h0
  try clear b9
  try clear h1
  try clear h2
  try clear k2 k3 k4 k5 k6 k7 k8 k9 l1 l2
  try clear l5 l6 l7 l8 l9 m0 m1 m2 m3 m4
  try clear m6 m7 m8 m9 n0 n1 n2 n3 n4 n5
  try clear n6 n7 n8 n9 o0 o1 o2 o3 o4 o5
  try clear i8 i9 j0 j2 j3 j4 j5 j6 j7 j8
  try clear p8
  try clear q8
  obtain ⟨a9, a1, rfl, HA, c0, a3, a2, HB⟩ := hrel
  cases gk with
  | zero => exact absurd HA.out (by simp [impl_Val_text.l0])
  | succ k1 =>
   have H := HA.out; clear HA; simp only [impl_Val_text.l0] at H; have h3 := zA H; clear H
   go_upto_if 31 with (fail)
   go_cut [] (fun wc => ∃ (kq : Nat), Aside0 (impl_Val_text.j1 kq a9 a0 (a0.length : Int) a1 a8 a5 a6 a0 a4 = some r) ∧ Aside0 (kq ≤ k1) ∧ Aside0 (Kd.R Kd.string 9 wc w.heap.size (fun _ => True) u3 a9) ∧ Aside0 (wc.heap[b7]? = some (.cells #[.int .i64 a8, .int .i64 a5, .string a6, (.slice b3 a0.length b0), (.slice b2 a4.length b1)] 30 (0, 0))) ∧ Aside0 (Below w.heap.size w wc))
   case first =>
    have H := h3.out; clear h3; replace H := zI0 H
    rcases H with ⟨d3, H⟩ | ⟨d3, H⟩
    ·(first | rw [d3] | (simp only [i64_w, i32_w]; rw [d3]) | skip)
     have H' := zA H; clear H
     go_wp2
     go_meet
     case rel => exact ⟨_, (by first | exact H' | (subst_vars; exact H')), ⟨by have := c0.out; first | omega | exact Nat.le_refl _⟩, ⟨zR a3.out⟩, ⟨zK a2.out⟩, ⟨zW HB.out⟩⟩
    (first | rw [d3] | (simp only [i64_w, i32_w]; rw [d3]) | skip)
    replace H := zI1 H
    rcases H with ⟨c4, H⟩ | ⟨c4, H⟩
    ·have o6 := beq_iff_eq.mpr c4; have o7 := bne_eq_false_iff_eq.mpr c4; clear c4; replace H := Option.bind_eq_some_iff.mp H; obtain ⟨f6, o8, H⟩ := H
     try dsimp only at H
     have q6 := zA o8; clear o8; replace H := zC0 H; obtain ⟨f7, H⟩ := H; have q7 := eq_true f7; have q9 := decide_eq_true f7
     try have r0 : (9223372036854775807 < 1 + f6.size) = False := eq_false (Nat.not_lt.2 f7)
     replace H := zC0 H; obtain ⟨d7, H⟩ := H; have r1 := eq_true d7; have r2 := decide_eq_true d7
     try have r3 : (9223372036854775807 < ((⟨#[123]⟩ : ByteArray) ++ f6).size + 1) = False := eq_false (Nat.not_lt.2 d7)
     try have z9 : (9223372036854775807 < 1 + f6.size + 1) = False := (by have z_ := d7; (try simp only [ByteArray.size_append] at z_); exact eq_false (Nat.not_lt.2 z_))
     obtain rfl := zm H; obtain ⟨r4, r5, r6, r7, r8, r9, t0, t1, t2, t3⟩ := ze5 a2.out; obtain ⟨t4, t5, t6⟩ := Kd.R_slice a3.out; subst t6
     go_wp2_with (first | ((with_reducible refine zq 25 ?_); refine zg (some 58) Tryd.func25 #[.slice t4 a9.length t5, .string (⟨#[44]⟩ : ByteArray)] ?_; (with_reducible refine (strings_Join.calls _ _ a9 (⟨#[44]⟩ : ByteArray) f6 _ ?s1 ?s2 q6.out).mono ?_); (case s1 => exact zC (Kd.R_reads' a3.out).2.2); (case s2 => exact (Kd.R_reads' a3.out).2.1); rintro e A0 ⟨rfl, hb⟩; refine ⟨_, rfl, ?_⟩; replace a3 := zr a3 hb; replace a2 := zb a2 hb; replace HB := zh HB hb; (try clear hb)))
     go_ret
     exact ⟨zE, zW HB.out⟩
    have o6 := beq_eq_false_iff_ne.mpr c4; have o7 := bne_iff_ne.mpr c4; replace H := Option.bind_eq_some_iff.mp H; obtain ⟨f8, o9, H⟩ := H
    try dsimp only at H
    have t7 := zA o9; clear o9; replace H := zC0 H; obtain ⟨f9, H⟩ := H; have t8 := eq_true f9; have t9 := decide_eq_true f9
    try have v0 : (9223372036854775807 < 1 + f8.size) = False := eq_false (Nat.not_lt.2 f9)
    replace H := zC0 H; obtain ⟨d8, H⟩ := H; have v1 := eq_true d8; have v2 := decide_eq_true d8
    try have v4 : (9223372036854775807 < ((⟨#[91]⟩ : ByteArray) ++ f8).size + 1) = False := eq_false (Nat.not_lt.2 d8)
    try have A1 : (9223372036854775807 < 1 + f8.size + 1) = False := (by have z_ := d8; (try simp only [ByteArray.size_append] at z_); exact eq_false (Nat.not_lt.2 z_))
    obtain rfl := zm H; obtain ⟨v5, v6, v7, v8, v9, x0, x1, x2, x3, x4⟩ := ze5 a2.out; obtain ⟨x5, x6, x7⟩ := Kd.R_slice a3.out; subst x7
    go_wp2_with (first | ((with_reducible refine zq 25 ?_); refine zg (some 62) Tryd.func25 #[.slice x5 a9.length x6, .string (⟨#[44]⟩ : ByteArray)] ?_; (with_reducible refine (strings_Join.calls _ _ a9 (⟨#[44]⟩ : ByteArray) f8 _ ?s1 ?s2 t7.out).mono ?_); (case s1 => exact zC (Kd.R_reads' a3.out).2.2); (case s2 => exact (Kd.R_reads' a3.out).2.1); rintro e A2 ⟨rfl, hb⟩; refine ⟨_, rfl, ?_⟩; replace a3 := zr a3 hb; replace a2 := zb a2 hb; replace HB := zh HB hb; (try clear hb)))
    go_ret
    exact ⟨zE, zW HB.out⟩
   case rest =>
    clear h3
    try clear c1
    try clear c2
    try clear g5
    try clear g6
    try clear p2
    try clear c3
    try clear c5
    try clear g7
    try clear g8
    try clear c6
    try clear j9
    try clear c7
    try clear k0
    try clear p8
    try clear q8
    try clear l3
    try clear b8
    try clear g9
    try clear h0
    try clear b9
    try clear h1
    try clear h2
    try clear c23
    try clear c24
    try clear d3
    try clear c4
    try clear o6
    try clear o7
    try clear f7
    try clear q7
    try clear q9
    try clear r0
    try clear d7
    try clear r1
    try clear r2
    try clear r3
    try clear f9
    try clear t8
    try clear t9
    try clear v0
    try clear d8
    try clear v1
    try clear v2
    try clear v4
    try clear k2 k3 k4 k5 k6 k7 k8 k9 l1 l2
    try clear l5 l6 l7 l8 l9 m0 m1 m2 m3 m4
    try clear m6 m7 m8 m9 n0 n1 n2 n3 n4 n5
    try clear n6 n7 n8 n9 o0 o1 o2 o3 o4 o5
    try clear r4 r5 r6 r7 r8 r9 t0 t1 t2 t3
    try clear v5 v6 v7 v8 v9 x0 x1 x2 x3 x4
    try clear i8 i9 j0 j2 j3 j4 j5 j6 j7 j8
    try clear p2
    try clear p8
    try clear q8
    obtain ⟨kq, HA, d4, a3, a2, HB⟩ := hcut
    cases kq with
    | zero => exact absurd HA.out (by simp [impl_Val_text.j1])
    | succ d5 =>
     have H := HA.out; clear HA; simp only [impl_Val_text.j1] at H; replace H := zD0 H; obtain ⟨A3, H⟩ := H; replace H := zD0 H; obtain ⟨A4, H⟩ := H; replace H := Option.bind_eq_some_iff.mp H; obtain ⟨b4, p0, H⟩ := H
     try dsimp only at H
     have p1 := zA p0; clear p0; replace H := zI1 H
     rcases H with ⟨d6, H⟩ | ⟨d6, H⟩
     ·have x8 := beq_iff_eq.mpr d6; have x9 := bne_eq_false_iff_eq.mpr d6; clear d6; replace H := zD0 H; obtain ⟨A5, H⟩ := H; replace H := Option.bind_eq_some_iff.mp H; obtain ⟨c8, p3, H⟩ := H
      try dsimp only at H
      have y0 := zA p3; clear p3; replace H := zC0 H; obtain ⟨h4, H⟩ := H; have A6 := eq_true h4; have A7 := decide_eq_true h4
      try have A8 : (9223372036854775807 < c8.size + 1) = False := eq_false (Nat.not_lt.2 h4)
      replace H := zC0 H; obtain ⟨g0, H⟩ := H; have A9 := eq_true g0; have B0 := decide_eq_true g0
      try have B1 : (9223372036854775807 < (c8 ++ (⟨#[58]⟩ : ByteArray)).size + b4.size) = False := eq_false (Nat.not_lt.2 g0)
      try have B2 : (9223372036854775807 < c8.size + 1 + b4.size) = False := (by have z_ := g0; (try simp only [ByteArray.size_append] at z_); exact eq_false (Nat.not_lt.2 z_))
      replace H := zC0 H; obtain ⟨p4, H⟩ := H; have y1 := zA p4; clear p4; obtain ⟨p5, h5⟩ : ∃ y_ : List ByteArray, y_ = (a9 ++ [(c8 ++ (⟨#[58]⟩ : ByteArray)) ++ b4]) := ⟨_, rfl⟩; replace H : (impl_Val_text.l0 d5 p5 a0 (a0.length : Int) (wrap64 (a1 + 1)) a8 a5 a6 a0 a4) = some r := zY h5 H; have y2 := zA h5; clear h5; have H' := zA H; clear H; have c9 : 0 ≤ (a1 : Int) := zD; have d0 : a1 < (a0.length : Int) := zD; obtain ⟨h6, b5, b6, d1, d2, h7, d9, e0, e1, e2, e3, e4, e5, e6, e7⟩ := at_T30 i7.out a1 c9 d0; cases h7; replace d9 := zx HB d9; replace e0 := zx HB e0; replace e1 := zx HB e1; replace e2 := zx HB e2; replace e3 := zx HB e3; have h8 := zA e5; have h9 := zA e4; clear e5 e4; have i0 := zA e7; have i1 := zA e6; clear e7 e6; replace c9 := eq_true c9; replace d0 := eq_true d0
      go_wp2_with (first | ((with_reducible refine zd 5 ?_); refine ze 5 30 #[.int .i64 0, .int .i64 0, .string (⟨#[]⟩ : ByteArray), .slice none 0 0, .slice none 0 0] ?_; intro e8 hg B3 hbox hb; replace a3 := zr a3 hb; have a7 := zA (hbox); have y3 := zi HB hg; have y4 := zi HB hg; replace HB := zh HB hb; have i2 := zA (zL hg (zK a2.out)); have i3 := zA (zJ hg (zK a2.out)); replace a2 := zb a2 hb; clear hb hbox hg; have B4 := i3.out; have B5 := i2.out; obtain ⟨B6, B7, B8, B9, C0, C1, C2, C3, C4, C5⟩ := ze5 a7.out) | ((with_reducible refine zq 16 ?_); refine zg (some 36) Tryd.func16 #[.agg #[.int .i64 ((rd_T30 a0 a1).f0), .int .i64 ((rd_T30 a0 a1).f1), .string ((rd_T30 a0 a1).f2), .slice b5 ((rd_T30 a0 a1).f3).length b6, .slice d1 ((rd_T30 a0 a1).f4).length d2]] ?_; (with_reducible refine (ih d5 (by have := c0.out; have := d4.out; omega) ((rd_T30 a0 a1).f0) ((rd_T30 a0 a1).f1) ((rd_T30 a0 a1).f2) _ _ ((rd_T30 a0 a1).f3) _ _ ((rd_T30 a0 a1).f4) b4 _ ?s1 ?s2 ?s3 ?s4 ?s5 p1.out).mono ?_); (case s1 => exact Kd.C_below h8.out (zW HB.out)); (case s2 => exact h9.out); (case s3 => exact Kd.C_below i0.out (zW HB.out)); (case s4 => exact i1.out); (case s5 => exact GW.below HG.out (zW HB.out)); rintro e C6 ⟨rfl, hb⟩; refine ⟨_, rfl, ?_⟩; replace a3 := zA (Kd.R_below (zR (zr5 a3.out a7.out)) hb); replace a2 := zb a2 hb; replace a7 := zA (blk_below (g := e8) (o := .cells #[.int .i64 ((rd_T30 a0 a1).f0), .int .i64 ((rd_T30 a0 a1).f1), .string ((rd_T30 a0 a1).f2), .slice b5 ((rd_T30 a0 a1).f3).length b6, .slice d1 ((rd_T30 a0 a1).f4).length d2] 30 (0, 0)) (by (with_reducible repeat (first | refine blk_drewN ?_ _ | refine blk_drew ?_ | refine blk_alloc ?_ _)); refine blk_put (cs := #[.int .i64 ((rd_T30 a0 a1).f0), .int .i64 ((rd_T30 a0 a1).f1), .string ((rd_T30 a0 a1).f2), .slice b5 ((rd_T30 a0 a1).f3).length b6, .slice none 0 0]) ?_ 4 _ rfl; (with_reducible repeat (first | refine blk_drewN ?_ _ | refine blk_drew ?_ | refine blk_alloc ?_ _)); refine blk_put (cs := #[.int .i64 ((rd_T30 a0 a1).f0), .int .i64 ((rd_T30 a0 a1).f1), .string ((rd_T30 a0 a1).f2), .slice none 0 0, .slice none 0 0]) ?_ 3 _ rfl; (with_reducible repeat (first | refine blk_drewN ?_ _ | refine blk_drew ?_ | refine blk_alloc ?_ _)); refine blk_put (cs := #[.int .i64 ((rd_T30 a0 a1).f0), .int .i64 ((rd_T30 a0 a1).f1), .string (⟨#[]⟩ : ByteArray), .slice none 0 0, .slice none 0 0]) ?_ 2 _ rfl; (with_reducible repeat (first | refine blk_drewN ?_ _ | refine blk_drew ?_ | refine blk_alloc ?_ _)); refine blk_put (cs := #[.int .i64 ((rd_T30 a0 a1).f0), .int .i64 0, .string (⟨#[]⟩ : ByteArray), .slice none 0 0, .slice none 0 0]) ?_ 1 _ rfl; (with_reducible repeat (first | refine blk_drewN ?_ _ | refine blk_drew ?_ | refine blk_alloc ?_ _)); refine blk_put (cs := #[.int .i64 0, .int .i64 0, .string (⟨#[]⟩ : ByteArray), .slice none 0 0, .slice none 0 0]) ?_ 0 _ rfl; (with_reducible repeat (first | refine blk_drewN ?_ _ | refine blk_drew ?_ | refine blk_alloc ?_ _)); exact a7.out) hb); replace HB := zh HB hb; (try clear hb); obtain ⟨C7, C8, C9, D0, D1, D2, D3, D4, D5, D6⟩ := ze5 a2.out; have i4 : 0 ≤ (a1 : Int) := zD; have i5 : a1 < (a4.length : Int) := zD; obtain ⟨y5, y6, p6⟩ := Kd.at_string q0.out a1 i4 i5; cases y6; replace p6 := zx HB p6; replace i4 := eq_true i4; replace i5 := eq_true i5) | ((with_reducible refine zq 24 ?_); refine zg (some 45) Tryd.func24 #[.string (rdOf ByteArray.empty a4 a1)] ?_; (with_reducible refine (impl_quoted.calls (rdOf ByteArray.empty a4 a1) c8 _ y0.out).mono ?_); rintro e D7 ⟨rfl, hb⟩; refine ⟨_, rfl, ?_⟩; replace a3 := zr a3 hb; replace a2 := zb a2 hb; replace a7 := zb a7 hb; replace HB := zh HB hb; (try clear hb)) | ((with_reducible refine gate_builtin (b := .append) (xs := #[.tmp 49, .tmp 51]) rfl ?_); at_builtin; refine Kd.R_append Kd.string (w0 := w) w.heap.size rfl (.tmp 49) (.tmp 51) 23 9 (.string ⟨#[]⟩) 16 rfl Tryd.underlying23 info9 rfl (by decide) (by omega) u3 a9 ((c8 ++ (⟨#[58]⟩ : ByteArray)) ++ b4) [.string ((c8 ++ (⟨#[58]⟩ : ByteArray)) ++ b4)] (fun _ => True) (fun _ => False) rfl rfl ?aP (fun _ hk => hk.elim) ?aF ?aO ?aB ?aS ?aL ?_; (case aP => exact rfl); (case aB => exact (zW HB.out)); (case aF => exact (fun _ _ => trivial)); (case aO => exact (zR a3.out)); (case aS => exact (below_size (zW HB.out))); (case aL => have := y1.out; omega); intro D8 D9 ho hb hg hat; rw [← y2.out] at ho; replace a2 := zA (blk_grown (g := b7) (o := .cells #[.int .i64 a8, .int .i64 a5, .string a6, .slice (some h6) a0.length b0, .slice (some y5) a4.length b1] 30 (0, 0)) (zK a2.out) hg (Kd.R_ne a3.out a2.out (by decide))); replace a7 := zA (blk_grown (g := e8) (o := .cells #[.int .i64 ((rd_T30 a0 a1).f0), .int .i64 ((rd_T30 a0 a1).f1), .string ((rd_T30 a0 a1).f2), .slice b5 ((rd_T30 a0 a1).f3).length b6, .slice d1 ((rd_T30 a0 a1).f4).length d2] 30 (0, 0)) (zK a7.out) hg (Kd.R_ne a3.out a7.out (by decide))); replace HB := zA (hb); have y7 := zA (ho); clear a3; clear ho hb hg hat))
      go_roundg d5
      case measure => have := c0.out; have := d4.out; omega
      case rel => exact ⟨(p5), (wrap64 (a1 + 1)), zS, H', ⟨by have := c0.out; have := d4.out; omega⟩, ⟨zR y7.out⟩, ⟨zK a2.out⟩, ⟨zW HB.out⟩⟩
     have x8 := beq_eq_false_iff_ne.mpr d6; have x9 := bne_iff_ne.mpr d6; replace H := zC0 H; obtain ⟨p7, H⟩ := H; have y8 := zA p7; clear p7; obtain ⟨p9, i6⟩ : ∃ y_ : List ByteArray, y_ = (a9 ++ [b4]) := ⟨_, rfl⟩; replace H : (impl_Val_text.l0 d5 p9 a0 (a0.length : Int) (wrap64 (a1 + 1)) a8 a5 a6 a0 a4) = some r := zY i6 H; have y9 := zA i6; clear i6; have H' := zA H; clear H; have c9 : 0 ≤ (a1 : Int) := zD; have d0 : a1 < (a0.length : Int) := zD; obtain ⟨h6, b5, b6, d1, d2, h7, d9, e0, e1, e2, e3, e4, e5, e6, e7⟩ := at_T30 i7.out a1 c9 d0; cases h7; replace d9 := zx HB d9; replace e0 := zx HB e0; replace e1 := zx HB e1; replace e2 := zx HB e2; replace e3 := zx HB e3; have h8 := zA e5; have h9 := zA e4; clear e5 e4; have i0 := zA e7; have i1 := zA e6; clear e7 e6; replace c9 := eq_true c9; replace d0 := eq_true d0
     go_wp2_with (first | ((with_reducible refine zd 5 ?_); refine ze 5 30 #[.int .i64 0, .int .i64 0, .string (⟨#[]⟩ : ByteArray), .slice none 0 0, .slice none 0 0] ?_; intro e8 hg E0 hbox hb; replace a3 := zr a3 hb; have a7 := zA (hbox); have y3 := zi HB hg; have y4 := zi HB hg; replace HB := zh HB hb; have i2 := zA (zL hg (zK a2.out)); have i3 := zA (zJ hg (zK a2.out)); replace a2 := zb a2 hb; clear hb hbox hg; have E1 := i3.out; have E2 := i2.out; obtain ⟨E3, E4, E5, E6, E7, E8, E9, F0, F1, F2⟩ := ze5 a7.out) | ((with_reducible refine zq 16 ?_); refine zg (some 36) Tryd.func16 #[.agg #[.int .i64 ((rd_T30 a0 a1).f0), .int .i64 ((rd_T30 a0 a1).f1), .string ((rd_T30 a0 a1).f2), .slice b5 ((rd_T30 a0 a1).f3).length b6, .slice d1 ((rd_T30 a0 a1).f4).length d2]] ?_; (with_reducible refine (ih d5 (by have := c0.out; have := d4.out; omega) ((rd_T30 a0 a1).f0) ((rd_T30 a0 a1).f1) ((rd_T30 a0 a1).f2) _ _ ((rd_T30 a0 a1).f3) _ _ ((rd_T30 a0 a1).f4) b4 _ ?s1 ?s2 ?s3 ?s4 ?s5 p1.out).mono ?_); (case s1 => exact Kd.C_below h8.out (zW HB.out)); (case s2 => exact h9.out); (case s3 => exact Kd.C_below i0.out (zW HB.out)); (case s4 => exact i1.out); (case s5 => exact GW.below HG.out (zW HB.out)); rintro e F3 ⟨rfl, hb⟩; refine ⟨_, rfl, ?_⟩; replace a3 := zA (Kd.R_below (zR (zr5 a3.out a7.out)) hb); replace a2 := zb a2 hb; replace a7 := zA (blk_below (g := e8) (o := .cells #[.int .i64 ((rd_T30 a0 a1).f0), .int .i64 ((rd_T30 a0 a1).f1), .string ((rd_T30 a0 a1).f2), .slice b5 ((rd_T30 a0 a1).f3).length b6, .slice d1 ((rd_T30 a0 a1).f4).length d2] 30 (0, 0)) (by (with_reducible repeat (first | refine blk_drewN ?_ _ | refine blk_drew ?_ | refine blk_alloc ?_ _)); refine blk_put (cs := #[.int .i64 ((rd_T30 a0 a1).f0), .int .i64 ((rd_T30 a0 a1).f1), .string ((rd_T30 a0 a1).f2), .slice b5 ((rd_T30 a0 a1).f3).length b6, .slice none 0 0]) ?_ 4 _ rfl; (with_reducible repeat (first | refine blk_drewN ?_ _ | refine blk_drew ?_ | refine blk_alloc ?_ _)); refine blk_put (cs := #[.int .i64 ((rd_T30 a0 a1).f0), .int .i64 ((rd_T30 a0 a1).f1), .string ((rd_T30 a0 a1).f2), .slice none 0 0, .slice none 0 0]) ?_ 3 _ rfl; (with_reducible repeat (first | refine blk_drewN ?_ _ | refine blk_drew ?_ | refine blk_alloc ?_ _)); refine blk_put (cs := #[.int .i64 ((rd_T30 a0 a1).f0), .int .i64 ((rd_T30 a0 a1).f1), .string (⟨#[]⟩ : ByteArray), .slice none 0 0, .slice none 0 0]) ?_ 2 _ rfl; (with_reducible repeat (first | refine blk_drewN ?_ _ | refine blk_drew ?_ | refine blk_alloc ?_ _)); refine blk_put (cs := #[.int .i64 ((rd_T30 a0 a1).f0), .int .i64 0, .string (⟨#[]⟩ : ByteArray), .slice none 0 0, .slice none 0 0]) ?_ 1 _ rfl; (with_reducible repeat (first | refine blk_drewN ?_ _ | refine blk_drew ?_ | refine blk_alloc ?_ _)); refine blk_put (cs := #[.int .i64 0, .int .i64 0, .string (⟨#[]⟩ : ByteArray), .slice none 0 0, .slice none 0 0]) ?_ 0 _ rfl; (with_reducible repeat (first | refine blk_drewN ?_ _ | refine blk_drew ?_ | refine blk_alloc ?_ _)); exact a7.out) hb); replace HB := zh HB hb; (try clear hb); obtain ⟨F4, F5, F6, F7, F8, F9, G0, G1, G2, G3⟩ := ze5 a2.out) | ((with_reducible refine gate_builtin (b := .append) (xs := #[.tmp 49, .tmp 51]) rfl ?_); at_builtin; refine Kd.R_append Kd.string (w0 := w) w.heap.size rfl (.tmp 49) (.tmp 51) 23 9 (.string ⟨#[]⟩) 16 rfl Tryd.underlying23 info9 rfl (by decide) (by omega) u3 a9 b4 [.string b4] (fun _ => True) (fun _ => False) rfl rfl ?aP (fun _ hk => hk.elim) ?aF ?aO ?aB ?aS ?aL ?_; (case aP => exact rfl); (case aB => exact (zW HB.out)); (case aF => exact (fun _ _ => trivial)); (case aO => exact (zR a3.out)); (case aS => exact (below_size (zW HB.out))); (case aL => have := y8.out; omega); intro G4 G5 ho hb hg hat; rw [← y9.out] at ho; replace a2 := zA (blk_grown (g := b7) (o := .cells #[.int .i64 a8, .int .i64 a5, .string a6, .slice (some h6) a0.length b0, .slice b2 a4.length b1] 30 (0, 0)) (zK a2.out) hg (Kd.R_ne a3.out a2.out (by decide))); replace a7 := zA (blk_grown (g := e8) (o := .cells #[.int .i64 ((rd_T30 a0 a1).f0), .int .i64 ((rd_T30 a0 a1).f1), .string ((rd_T30 a0 a1).f2), .slice b5 ((rd_T30 a0 a1).f3).length b6, .slice d1 ((rd_T30 a0 a1).f4).length d2] 30 (0, 0)) (zK a7.out) hg (Kd.R_ne a3.out a7.out (by decide))); replace HB := zA (hb); have z0 := zA (ho); clear a3; clear ho hb hg hat))
     go_roundg d5
     case measure => have := c0.out; have := d4.out; omega
     case rel => exact ⟨(p9), (wrap64 (a1 + 1)), zS, H', ⟨by have := c0.out; have := d4.out; omega⟩, ⟨zR z0.out⟩, ⟨zK a2.out⟩, ⟨zW HB.out⟩⟩
end Go.Proofs.YtglhniiabhknoaaDoor.PGA
