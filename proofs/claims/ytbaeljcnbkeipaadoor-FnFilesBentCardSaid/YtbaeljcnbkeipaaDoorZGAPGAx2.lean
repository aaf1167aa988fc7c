/- The walks of the functions that these laws reach, and what each comes to: printed by this session's program. -/
import Derived.Test.YtbaeljcnbkeipaaDoorZGAPGAx0
import Derived.Test.YtbaeljcnbkeipaaDoorZGASays
import Derived.Test.YtbaeljcnbkeipaaDoorZGARegs
namespace Go.Proofs.YtbaeljcnbkeipaaDoor.PGA
open Go.RowKit YtbaeljcnbkeipaaDoorW.PrintWords YtbaeljcnbkeipaaDoorW.PrintLast YtbaeljcnbkeipaaDoorW.PrintMore
attribute [local go_sem high] Mine.str_gtr Mine.str_leq Mine.str_geq
attribute [local go_sem] max2_int min2_int max_two min_two max_three min_three max_four min_four   -- for this text's walks alone
set_option linter.unusedVariables false
set_option maxHeartbeats 8000000
set_option maxRecDepth 100000
set_option linter.unusedSimpArgs false
/-! ### laws_big: function 17 -/
def laws_big.f (l0 : List Int) : Option (Bool) := some (decide ((l0.length : Int) > 1048576))
theorem laws_big.calls (A0 : Option Addr) (c0 : Nat) (l0 : List Int) (r : Bool) (w : World) (a0 : Kd.C (Kd.int .u8) w A0 l0.length l0) (a1 : l0.length ≤ c0) (h : laws_big.f l0 = some r) :
  Calls Tryd.prog 17 #[.slice A0 l0.length c0] w fun e w' => e = .returned (.bool r) ∧ Drawn0 w w' := by
 have a2 := zA a0
 have a3 := zA a1
 clear a0 a1
 unfold laws_big.f at h
 have H := h
 clear h
 obtain rfl := zm H
 go_enter Tryd.func17, Tryd.ntmps17
 go_wp2
 go_ret
 exact ⟨by first | rfl | (simp; done) | (simp [*]; done) | (simp; rw [Bool.eq_iff_iff]; simp; done), by repeat (first | exact Drawn0.refl _ | apply Drawn0.step)⟩
/-- A state of type 113 at block g of W; what its slices lead to came in by w0. -/
def IsS113 (w0 W : World) (g : Nat) (f0 : List Int) (f1 f2 : Int) : Prop := ∃ A0 c0, W.heap[g]? = some (.cells #[.slice A0 f0.length c0, .int .i64 f1, .int .i64 f2] 113 (0, 0)) ∧ w0.heap.size ≤ g ∧ Kd.C (Kd.int .u8) w0 A0 f0.length f0
theorem IsS113.grown {w0 W : World} {g : Nat} {f0 : List Int} {f1 : Int} {f2 : Int} {W1 : World} {row : Option Nat} (h : IsS113 w0 W g f0 f1 f2) (hw : W.grownBy W1 row) (hne : some g ≠ row) : IsS113 w0 W1 g f0 f1 f2 := by
 obtain ⟨A0, c0, hb, hg, a0⟩ := h
 exact ⟨A0, c0, blk_grown hb hw hne, hg, a0⟩
theorem IsS113.own_neN {w0 W : World} {g : Nat} {f0 : List Int} {f1 : Int} {f2 : Int} {α : Type} {d : Kd α} {e : Nat} {base : Nat} {ok : Nat → Prop} {v : Value} {xs : List α} (h : IsS113 w0 W g f0 f1 f2) (ho : Kd.N d e W base ok v xs) (ht : e ≠ 113) : some g ≠ v.ownBlock := by
 obtain ⟨A0, c0, hb, hg, a0⟩ := h
 exact Kd.N_ne ho hb ht
theorem IsS113.fresh {w0 W : World} {g : Nat} {f0 : List Int} {f1 : Int} {f2 : Int} (h : IsS113 w0 W g f0 f1 f2) : ∀ k, W.heap.size ≤ k → k ≠ g := by
 obtain ⟨A0, c0, hb, hg, a0⟩ := h
 exact Kd.freshB hb
theorem IsS113.kept {w0 W : World} {g : Nat} {f0 : List Int} {f1 : Int} {f2 : Int} {W1 : World} {S : Nat → Prop} (h : IsS113 w0 W g f0 f1 f2) (hk : Kept W W1 S) (hne : ¬ S g) : IsS113 w0 W1 g f0 f1 f2 := by
 obtain ⟨A0, c0, hb, hg, a0⟩ := h
 exact ⟨A0, c0, blk_kept hb hk hne, hg, a0⟩
theorem IsS113.below {w0 W : World} {g : Nat} {f0 : List Int} {f1 : Int} {f2 : Int} {W1 : World} (h : IsS113 w0 W g f0 f1 f2) (hw : Below W.heap.size W W1) : IsS113 w0 W1 g f0 f1 f2 := h.grown (grown_of_below hw none) (by simp)
theorem IsS113.alloc {w0 W : World} {g : Nat} {f0 : List Int} {f1 : Int} {f2 : Int} (h : IsS113 w0 W g f0 f1 f2) (o : Obj) : IsS113 w0 (W.alloc o) g f0 f1 f2 := h.below (below_alloc (Below.refl _ _) o)
theorem IsS113.drewN {w0 W : World} {g : Nat} {f0 : List Int} {f1 : Int} {f2 : Int} (h : IsS113 w0 W g f0 f1 f2) (m : Nat) : IsS113 w0 (W.drewN m) g f0 f1 f2 := h
theorem IsS113.drew {w0 W : World} {g : Nat} {f0 : List Int} {f1 : Int} {f2 : Int} (h : IsS113 w0 W g f0 f1 f2) : IsS113 w0 W.drew g f0 f1 f2 := h
theorem IsS113.at_ {w0 W : World} {g : Nat} {f0 : List Int} {f1 : Int} {f2 : Int} {w' : World} {m : Nat} (hq : W.drewN m = w') (h : IsS113 w0 W g f0 f1 f2) : IsS113 w0 w' g f0 f1 f2 := by subst hq; exact IsS113.drewN h m
theorem IsS113.apart {w0 W : World} {g : Nat} {f0 : List Int} {f1 : Int} {f2 : Int} {α : Type} {d : Kd α} {e : Nat} {base : Nat} {ok : Nat → Prop} {v : Value} {xs : List α} (h : IsS113 w0 W g f0 f1 f2) (ho : d.R e W base ok v xs) (ht : ∀ q, q ∈ e :: d.E → q ≠ 113) : d.R e W base (fun k => ok k ∧ k ≠ g) v xs := by
 obtain ⟨A0, c0, hb, hg, a0⟩ := h
 exact Kd.R_types ho hb ht
theorem IsS113.own_ne {w0 W : World} {g : Nat} {f0 : List Int} {f1 : Int} {f2 : Int} {α : Type} {d : Kd α} {e : Nat} {base : Nat} {ok : Nat → Prop} {v : Value} {xs : List α} (h : IsS113 w0 W g f0 f1 f2) (ho : d.R e W base ok v xs) (ht : e ≠ 113) : some g ≠ v.ownBlock := by
 obtain ⟨A0, c0, hb, hg, a0⟩ := h
 exact Kd.R_ne ho hb ht
theorem IsS113.apartQ {w0 W : World} {g : Nat} {f0 : List Int} {f1 : Int} {f2 : Int} {α : Type} {d : Kd α} {e : Nat} {base : Nat} {ok : Nat → Prop} {v : Value} {xs : List α} (h : IsS113 w0 W g f0 f1 f2) (ho : d.Q e W base ok v xs) (ht : ∀ q, q ∈ e :: d.E → q ≠ 113) : d.Q e W base (fun k => ok k ∧ k ≠ g) v xs := by
 obtain ⟨A0, c0, hb, hg, a0⟩ := h
 exact Kd.Q_types ho hb ht
theorem IsS113.own_neQ {w0 W : World} {g : Nat} {f0 : List Int} {f1 : Int} {f2 : Int} {α : Type} {d : Kd α} {e : Nat} {base : Nat} {ok : Nat → Prop} {v : Value} {xs : List α} (h : IsS113 w0 W g f0 f1 f2) (ho : d.Q e W base ok v xs) (ht : e ≠ 113) : some g ≠ v.ownBlock := by
 obtain ⟨A0, c0, hb, hg, a0⟩ := h
 exact Kd.Q_ne ho hb ht
theorem IsS113.apartS {w0 W : World} {g : Nat} {f0 : List Int} {f1 : Int} {f2 : Int} {α : Type} {d : Kd α} {e : Nat} {base : Nat} {ok : Nat → Prop} {v : Value} {xs : List α} (h : IsS113 w0 W g f0 f1 f2) (ho : d.S e W base ok v xs) (ht : ∀ q, q ∈ e :: d.E → q ≠ 113) : d.S e W base (fun k => ok k ∧ k ≠ g) v xs := by
 obtain ⟨A0, c0, hb, hg, a0⟩ := h
 exact Kd.S_types ho hb ht
theorem IsS113.own_neS {w0 W : World} {g : Nat} {f0 : List Int} {f1 : Int} {f2 : Int} {α : Type} {d : Kd α} {e : Nat} {base : Nat} {ok : Nat → Prop} {v : Value} {xs : List α} (h : IsS113 w0 W g f0 f1 f2) (ho : d.S e W base ok v xs) (ht : e ≠ 113) : some g ≠ v.ownBlock := by
 obtain ⟨A0, c0, hb, hg, a0⟩ := h
 exact Kd.S_ne ho hb ht
theorem IsS113.lt {w0 W : World} {g : Nat} {f0 : List Int} {f1 : Int} {f2 : Int} (h : IsS113 w0 W g f0 f1 f2) : g < W.heap.size := by
 obtain ⟨A0, c0, hb, hg, a0⟩ := h
 exact blk_lt hb
theorem IsS113.ge {w0 W : World} {g : Nat} {f0 : List Int} {f1 : Int} {f2 : Int} (h : IsS113 w0 W g f0 f1 f2) : w0.heap.size ≤ g := by
 obtain ⟨A0, c0, hb, hg, a0⟩ := h
 exact hg
theorem IsS113.ne_blk {w0 W : World} {g : Nat} {f0 : List Int} {f1 : Int} {f2 : Int} {a : Nat} {cs : Array Value} {t : TypeId} {fr : Nat × Nat} (h : IsS113 w0 W g f0 f1 f2) (a0 : W.heap[a]? = some (.cells cs t fr)) (ht : t ≠ 113) : g ≠ a := by
 obtain ⟨A0, c0, hb, hg, a1⟩ := h
 rintro rfl
 rw [hb] at a0
 injection a0 with a0
 injection a0 with _ ht2
 exact ht ht2.symm
theorem IsS113.far {w0 W : World} {g : Nat} {f0 : List Int} {f1 : Int} {f2 : Int} {p : Addr} (h : IsS113 w0 W g f0 f1 f2) (hne : g ≠ p.block) (u : Value) : IsS113 w0 (W.setCell p u) g f0 f1 f2 := by
 obtain ⟨A0, c0, hb, hg, a0⟩ := h
 exact ⟨A0, c0, blk_far hb hne u, hg, a0⟩
theorem cellS113_0 {W : World} {g : Nat} {A0 : Option Addr} {c0 : Nat} {f0 : List Int} {f1 : Int} {f2 : Int} (h : W.heap[g]? = some (.cells #[.slice A0 f0.length c0, .int .i64 f1, .int .i64 f2] 113 (0, 0))) : W.cell? ⟨g, 0, none⟩ = some (.slice A0 f0.length c0) := (blk_cell h 0).trans rfl
theorem cellS113_1 {W : World} {g : Nat} {A0 : Option Addr} {c0 : Nat} {f0 : List Int} {f1 : Int} {f2 : Int} (h : W.heap[g]? = some (.cells #[.slice A0 f0.length c0, .int .i64 f1, .int .i64 f2] 113 (0, 0))) : W.cell? ⟨g, 1, none⟩ = some (.int .i64 f1) := (blk_cell h 1).trans rfl
theorem IsS113.set_1 {w0 W : World} {g : Nat} {f0 : List Int} {f1 : Int} {f2 : Int} (h : IsS113 w0 W g f0 f1 f2) (x : Int) : IsS113 w0 (W.setCell ⟨g, 1, none⟩ (.int .i64 x)) g f0 x f2 := by
 obtain ⟨A0, c0, hb, hg, a0⟩ := h
 exact ⟨A0, c0, by simpa using blk_set hb 1 (.int .i64 x), hg, a0⟩
theorem cellS113_2 {W : World} {g : Nat} {A0 : Option Addr} {c0 : Nat} {f0 : List Int} {f1 : Int} {f2 : Int} (h : W.heap[g]? = some (.cells #[.slice A0 f0.length c0, .int .i64 f1, .int .i64 f2] 113 (0, 0))) : W.cell? ⟨g, 2, none⟩ = some (.int .i64 f2) := (blk_cell h 2).trans rfl
theorem IsS113.set_2 {w0 W : World} {g : Nat} {f0 : List Int} {f1 : Int} {f2 : Int} (h : IsS113 w0 W g f0 f1 f2) (x : Int) : IsS113 w0 (W.setCell ⟨g, 2, none⟩ (.int .i64 x)) g f0 f1 x := by
 obtain ⟨A0, c0, hb, hg, a0⟩ := h
 exact ⟨A0, c0, by simpa using blk_set hb 2 (.int .i64 x), hg, a0⟩
theorem IsS113.new (w0 W : World) (A0 : Option Addr) (c0 : Nat) (f0 : List Int) (f1 f2 : Int) (hB : Below w0.heap.size w0 W) (a0 : Kd.C (Kd.int .u8) w0 A0 f0.length f0) : IsS113 w0 (W.alloc (.cells #[.slice A0 f0.length c0, .int .i64 f1, .int .i64 f2] 113)) W.heap.size f0 f1 f2 := ⟨A0, c0, by simpa using heap_alloc_new W _, hB.size, a0⟩
/-! ### spec_l1New: function 64 -/
def spec_l1New.l0 : Nat → List Int → Int → Int → Option (List Int × Int × Int)
 | 0, _, _, _ => none
 | k + 1, x0, x3, x4 => if x4 < (x0.length : Int) then (if x4 < 4000 then (if 0 ≤ x4 then (spec_l1New.l0 k x0 (Go.bits .and .i64 (wrap64 ((wrap64 ((wrap64 (x3 * 137)) + (wrap64 (rd x0 x4)))) + 11)) 1073741823) (wrap64 (x4 + 1))) else (none)) else (some (x0, 0, x3))) else (some (x0, 0, x3))
def spec_l1New.f (k : Nat) (l0 : List Int) : Option (List Int × Int × Int) := spec_l1New.l0 k l0 (wrap64 (778778 + (l0.length : Int))) 0
theorem spec_l1New.calls (k : Nat) (A0 : Option Addr) (c0 : Nat) (l0 r1 : List Int) (r2 r3 : Int) (w0 w : World) (hB : Below w0.heap.size w0 w) (a7 : Kd.C (Kd.int .u8) w0 A0 l0.length l0) (a8 : l0.length ≤ c0) (h : spec_l1New.f k l0 = some (r1, r2, r3)) :
  Calls Tryd.prog 64 #[.slice A0 l0.length c0] w fun e w' => ∃ g_ : Nat, e = .returned (.pointer (some ⟨g_, 0, none⟩)) ∧ IsS113 w0 w' g_ r1 r2 r3 ∧ Below w0.heap.size w0 w' ∧ Below w.heap.size w w' := by
 have c2 := Tryd.underlying113
 have a4 := zA a7
 have c3 := zA a8
 clear a7 a8
 have HBW := zA (Below.refl w.heap.size w)
 have a9 := zA hB.size
 have HB := zA hB
 clear hB
 unfold spec_l1New.f at h
 have H := h
 clear h
 have H' := zA H
 clear H
 go_enter Tryd.func64, Tryd.ntmps64
 go_wp2
 go_loopg [3, 4] k (fun kq v3 v4 w' => ∃ (a0 : Int) (a1 : Int), v3 = .int .i64 a0 ∧ v4 = .int .i64 a1 ∧ Aside0 (spec_l1New.l0 kq l0 a0 a1 = some (r1, r2, r3)) ∧ Aside0 (kq ≤ k) ∧ Aside0 (Below w0.heap.size w0 w') ∧ Aside0 (Below w.heap.size w w'))
 case atStart => exact ⟨(wrap64 (778778 + (l0.length : Int))), (0), zS, zS, H', ⟨Nat.le_refl _⟩, ⟨zB⟩, ⟨by repeat (first | (with_reducible first | exact HBW.out | apply below_alloc | apply pw_below_drewN | apply below_drew1) | exact HBW.out)⟩⟩
 case round =>
  clear H'; obtain ⟨a0, a1, rfl, rfl, HA, b0, HB, HBW⟩ := hrel
  cases gk with
  | zero => exact absurd HA.out (by simp [spec_l1New.l0])
  | succ k1 =>
   have H := HA.out; clear HA; simp only [spec_l1New.l0] at H; replace H := zI0 H
   rcases H with ⟨b2, H⟩ | ⟨b2, H⟩
   ·replace H := zI0 H
    rcases H with ⟨b3, H⟩ | ⟨b3, H⟩
    ·replace H := zD0 H; obtain ⟨c4, H⟩ := H; have H' := zA H; clear H; have a5 : 0 ≤ (a1 : Int) := zD; have a6 : a1 < (l0.length : Int) := zD; obtain ⟨c5, b4, b1⟩ := Kd.at_int a4.out a1 a5 a6; cases b4; replace b1 := pw_cell_below HB.out b1; replace a5 := eq_true a5; replace a6 := eq_true a6
     go_wp2
     go_roundg k1
     case measure => have := b0.out; omega
     case rel => exact ⟨(Go.bits .and .i64 (wrap64 ((wrap64 ((wrap64 (a0 * 137)) + (wrap64 (rd l0 a1)))) + 11)) 1073741823), (wrap64 (a1 + 1)), zS, zS, H', ⟨by have := b0.out; omega⟩, ⟨zB⟩, ⟨by repeat (first | (with_reducible first | exact HBW.out | apply below_alloc | apply pw_below_drewN | apply below_drew1) | exact HBW.out)⟩⟩
    simp only [zU] at H; obtain ⟨rfl, rfl, rfl⟩ := H
    go_wp2_with (first | ((with_reducible refine zd 31 ?_); refine ze 31 113 #[.slice A0 l0.length c0, .int .i64 0, .int .i64 a0] ?_; intro a2 hg w5 hbox hb; replace HB := zA (below_step (zB) hb); have b5 := zA (hbox); have b6 := zA ((by rw [hg]; exact (below_size (by repeat (first | (with_reducible first | exact HBW.out | apply below_alloc | apply pw_below_drewN | apply below_drew1) | exact HBW.out))) : w.heap.size ≤ a2)); have b7 := zA ((Nat.le_trans a9.out (by rw [hg]; exact (below_size (by repeat (first | (with_reducible first | exact HBW.out | apply below_alloc | apply pw_below_drewN | apply below_drew1) | exact HBW.out))) : w.heap.size ≤ a2) : w0.heap.size ≤ a2)); replace HBW := zA (below_step HBW.out hb); clear hb hbox hg))
    go_ret
    exact ⟨_, rfl, (show IsS113 w0 _ a2 l0 0 a0 from ⟨_, _, zK b5.out, b7.out, a4.out⟩), zW HB.out, by repeat (first | (with_reducible first | exact HBW.out | apply below_alloc | apply pw_below_drewN | apply below_drew1 | refine below_set ?_ b6.out) | exact HBW.out)⟩
   simp only [zU] at H; obtain ⟨rfl, rfl, rfl⟩ := H
   go_wp2_with (first | ((with_reducible refine zd 31 ?_); refine ze 31 113 #[.slice A0 l0.length c0, .int .i64 0, .int .i64 a0] ?_; intro a3 hg w6 hbox hb; replace HB := zA (below_step (zB) hb); have b8 := zA (hbox); have b9 := zA ((by rw [hg]; exact (below_size (by repeat (first | (with_reducible first | exact HBW.out | apply below_alloc | apply pw_below_drewN | apply below_drew1) | exact HBW.out))) : w.heap.size ≤ a3)); have c1 := zA ((Nat.le_trans a9.out (by rw [hg]; exact (below_size (by repeat (first | (with_reducible first | exact HBW.out | apply below_alloc | apply pw_below_drewN | apply below_drew1) | exact HBW.out))) : w.heap.size ≤ a3) : w0.heap.size ≤ a3)); replace HBW := zA (below_step HBW.out hb); clear hb hbox hg))
   go_ret
   exact ⟨_, rfl, (show IsS113 w0 _ a3 l0 0 a0 from ⟨_, _, zK b8.out, c1.out, a4.out⟩), zW HB.out, by repeat (first | (with_reducible first | exact HBW.out | apply below_alloc | apply pw_below_drewN | apply below_drew1 | refine below_set ?_ b9.out) | exact HBW.out)⟩
/-! ### spec_l1Byte: function 123 -/
def spec_l1Byte.f (a2 : List Int) (a1 a0 : Int) : Option (Int × Int × Int) := if a1 < (a2.length : Int) then (if 0 ≤ a1 then (some (Go.bits .and .i64 (wrap64 ((Go.bits .and .i64 (Go.bits .xor .i64 ((wrap64 ((wrap64 (a0 * 6364136223846793005)) + 1442695040888963407)) / 8589934592) ((wrap64 ((wrap64 (a0 * 6364136223846793005)) + 1442695040888963407)) / 140737488355328)) 255) + (wrap64 (rd a2 a1)))) 255, wrap64 (a1 + 1), wrap64 ((wrap64 (a0 * 6364136223846793005)) + 1442695040888963407))) else (none)) else (some (Go.bits .and .i64 (Go.bits .xor .i64 ((wrap64 ((wrap64 (a0 * 6364136223846793005)) + 1442695040888963407)) / 8589934592) ((wrap64 ((wrap64 (a0 * 6364136223846793005)) + 1442695040888963407)) / 140737488355328)) 255, a1, wrap64 ((wrap64 (a0 * 6364136223846793005)) + 1442695040888963407)))
theorem spec_l1Byte.calls (g : Nat) (a5 : List Int) (a4 a6 r1 r2 r3 : Int) (w0 w : World) (hI : IsS113 w0 w g a5 a4 a6) (hB : Below w0.heap.size w0 w) (h : spec_l1Byte.f a5 a4 a6 = some (r1, r2, r3)) :
  Calls Tryd.prog 123 #[.pointer (some ⟨g, 0, none⟩)] w fun e w' => e = .returned (.int .i64 r1) ∧ IsS113 w0 w' g a5 r2 r3 ∧ Below w0.heap.size w0 w' ∧ KeepBut w w' g none := by
 have a0 := zA hI
 have HK := zA (KeepBut.refl w g none)
 have HL := zA hB.size
 clear hI
 have b6 := zA hB.size
 have HB := zA hB
 clear hB
 unfold spec_l1Byte.f at h
 have H := h
 clear h
 replace H := zI0 H
 rcases H with ⟨b0, H⟩ | ⟨b0, H⟩
 ·replace H := zD0 H; obtain ⟨b7, H⟩ := H; simp only [zU] at H; obtain ⟨rfl, rfl, rfl⟩ := H; obtain ⟨b8, b9, a1, b1, b2⟩ := a0.out; have c0 := cellS113_0 a1; have c1 := cellS113_1 a1; have c2 := cellS113_2 a1; have c3 := blk_frozen a1 1; have c4 := blk_frozen a1 2; clear a1 b1; have a8 : 0 ≤ (a4 : Int) := zD; have a9 : a4 < (a5.length : Int) := zD; obtain ⟨b3, b4, a2⟩ := Kd.at_int b2 a4 a8 a9; cases b4; have a7 : b3.block ≠ g := Nat.ne_of_lt (Nat.lt_of_lt_of_le (by have := World.block_lt_of_cell? _ _ a2; first | rwa [add_block] at this | exact this) (IsS113.ge a0.out)); replace a2 := pw_cell_below HB.out a2; replace a2 := (cell_far (p := ⟨g, 2, none⟩) (by first | (rw [add_block]; exact a7) | (show (Addr.add _ _).block ≠ _; rw [add_block]; exact a7) | exact a7) (.int .i64 (wrap64 ((wrap64 (a6 * 6364136223846793005)) + 1442695040888963407)))).trans a2
  (try have c5 := fun (n_ : Nat) => (show (((w.drewN n_).setCell ⟨g, 2, none⟩ (.int .i64 (wrap64 ((wrap64 (a6 * 6364136223846793005)) + 1442695040888963407))))).cell? _ = some _ from a2))
  clear a7; replace a8 := eq_true a8; replace a9 := eq_true a9
  go_enter Tryd.func123, Tryd.ntmps123
  go_wp2
  repeat (go_quiet (fail); try go_wp2)
  go_ret
  exact ⟨zE, by repeat (first | (with_reducible first | exact a0.out | apply IsS113.alloc | apply IsS113.drewN | apply IsS113.drew | apply IsS113.set_1 | apply IsS113.set_2) | exact a0.out), zX HB.out (IsS113.ge a0.out), zQ HK.out⟩
 simp only [zU] at H
 obtain ⟨rfl, rfl, rfl⟩ := H
 obtain ⟨c6, c7, a3, b5, c8⟩ := a0.out
 have c9 := cellS113_0 a3
 have d0 := cellS113_1 a3
 have d1 := cellS113_2 a3
 have d2 := blk_frozen a3 1
 have d3 := blk_frozen a3 2
 clear a3 b5
 go_enter Tryd.func123, Tryd.ntmps123
 go_wp2
 repeat (go_quiet (fail); try go_wp2)
 go_ret
 exact ⟨zE, by repeat (first | (with_reducible first | exact a0.out | apply IsS113.alloc | apply IsS113.drewN | apply IsS113.drew | apply IsS113.set_1 | apply IsS113.set_2) | exact a0.out), zX HB.out (IsS113.ge a0.out), zQ HK.out⟩
/-! ### spec_l1Below: function 104 -/
def spec_l1Below.j0 : Nat → Int → List Int → Int → Int → Option (Int × Int × Int)
 | 0, _, _, _, _ => none
 | k + 1, x1, a0, a5, a6 => if x1 ≤ 256 then ((spec_l1Byte.f a0 a5 a6).bind fun a1 => (if x1 = 0 then (none) else (some (Int.tmod a1.1 x1, a1.2.1, a1.2.2)))) else ((spec_l1Byte.f a0 a5 a6).bind fun a2 => ((spec_l1Byte.f a0 a2.2.1 a2.2.2).bind fun a3 => ((spec_l1Byte.f a0 a3.2.1 a3.2.2).bind fun a4 => (if x1 = 0 then (none) else (some (Int.tmod (wrap64 ((wrap64 ((wrap64 (a2.1 * 65536)) + (wrap64 (a3.1 * 256)))) + a4.1)) x1, a4.2.1, a4.2.2))))))
def spec_l1Below.f (k : Nat) (a3 : List Int) (a0 a2 a1 : Int) : Option (Int × Int × Int) := if a1 ≤ 0 then (some (0, a0, a2)) else (spec_l1Below.j0 k a1 a3 a0 a2)
theorem spec_l1Below.calls (k g : Nat) (a2 : List Int) (a3 a4 a1 r1 r2 r3 : Int) (w0 w : World) (hI : IsS113 w0 w g a2 a3 a4) (hB : Below w0.heap.size w0 w) (h : spec_l1Below.f k a2 a3 a4 a1 = some (r1, r2, r3)) :
  Calls Tryd.prog 104 #[.pointer (some ⟨g, 0, none⟩), .int .i64 a1] w fun e w' => e = .returned (.int .i64 r1) ∧ IsS113 w0 w' g a2 r2 r3 ∧ Below w0.heap.size w0 w' ∧ KeepBut w w' g none := by
 have a0 := zA hI
 have HK := zA (KeepBut.refl w g none)
 have HL := zA hB.size
 clear hI
 have d0 := zA hB.size
 have HB := zA hB
 clear hB
 unfold spec_l1Below.f at h
 have H := h
 clear h
 have a6 := zA H
 clear H
 go_enter Tryd.func104, Tryd.ntmps104
 go_upto_if 9 with (fail)
 go_cut [] (fun wc => ∃ (kq : Nat), Aside0 (spec_l1Below.j0 kq a1 a2 a3 a4 = some (r1, r2, r3)) ∧ Aside0 (kq ≤ k) ∧ Aside0 (IsS113 w0 wc g a2 a3 a4) ∧ Aside0 (KeepBut w wc g none) ∧ Aside0 (Below w0.heap.size w0 wc))
 case first =>
  have H := a6.out; clear a6; replace H := zI0 H
  rcases H with ⟨a5, H⟩ | ⟨a5, H⟩
  ·(first | rw [a5] | (simp only [i64_w, i32_w]; rw [a5]) | skip)
   simp only [zU] at H; obtain ⟨rfl, rfl, rfl⟩ := H
   go_wp2
   go_ret
   exact ⟨zE, by repeat (first | (with_reducible first | exact a0.out | apply IsS113.alloc | apply IsS113.drewN | apply IsS113.drew | apply IsS113.set_1 | apply IsS113.set_2) | exact a0.out), zX HB.out (IsS113.ge a0.out), zQ HK.out⟩
  (first | rw [a5] | (simp only [i64_w, i32_w]; rw [a5]) | skip)
  have H' := zA H; clear H
  go_wp2
  go_meet
  case rel => exact ⟨_, (by first | exact H' | (subst_vars; exact H')), ⟨by first | omega | exact Nat.le_refl _⟩, ⟨by repeat (first | (with_reducible first | exact a0.out | apply IsS113.alloc | apply IsS113.drewN | apply IsS113.drew | apply IsS113.set_1 | apply IsS113.set_2) | exact a0.out)⟩, ⟨zQ HK.out⟩, ⟨zX HB.out (IsS113.ge a0.out)⟩⟩
 case rest =>
  clear a6
  try clear c1
  try clear p2
  try clear c4
  try clear a5
  obtain ⟨kq, HA, d1, a0, HK, HB⟩ := hcut
  cases kq with
  | zero => exact absurd HA.out (by simp [spec_l1Below.j0])
  | succ d2 =>
   have H := HA.out; clear HA; simp only [spec_l1Below.j0] at H; replace H := zI0 H
   rcases H with ⟨b6, H⟩ | ⟨b6, H⟩
   ·replace H := Option.bind_eq_some_iff.mp H; obtain ⟨⟨b7, b8, b9⟩, a8, H⟩ := H
    try dsimp only at H
    have A6 := zA a8; clear a8; replace H := zI1 H
    rcases H with ⟨c7, H⟩ | ⟨c7, H⟩
    ·exact absurd H (by simp)
    have d3 := beq_eq_false_iff_ne.mpr c7; have d4 := bne_iff_ne.mpr c7; simp only [zU] at H; obtain ⟨rfl, rfl, rfl⟩ := H
    go_wp2_with (first | ((with_reducible refine zq 123 ?_); refine zg (some 13) Tryd.func123 #[.pointer (some ⟨g, 0, none⟩)] ?_; (with_reducible refine (spec_l1Byte.calls g a2 a3 a4 b7 b8 b9 w0 _ ?s1 ?s2 A6.out).mono ?_); (case s1 => repeat (first | (with_reducible first | exact a0.out | apply IsS113.alloc | apply IsS113.drewN | apply IsS113.drew | apply IsS113.set_1 | apply IsS113.set_2) | exact a0.out)); (case s2 => repeat (first | (with_reducible first | exact HB.out | apply below_alloc | apply pw_below_drewN | apply below_drew1 | refine below_set ?_ (IsS113.ge a0.out)) | exact HB.out)); rintro e w8 ⟨rfl, hi, hb, hk⟩; refine ⟨_, rfl, ?_⟩; replace HK := zA (KeepBut.trans (zQ HK.out) hk (.inl rfl)); replace HB := zA (hb); replace a0 := zA (hi); (try clear hb hk hi)))
    go_ret
    exact ⟨zE, by repeat (first | (with_reducible first | exact a0.out | apply IsS113.alloc | apply IsS113.drewN | apply IsS113.drew | apply IsS113.set_1 | apply IsS113.set_2) | exact a0.out), zX HB.out (IsS113.ge a0.out), zQ HK.out⟩
   replace H := Option.bind_eq_some_iff.mp H; obtain ⟨⟨c0, a9, b0⟩, b1, H⟩ := H
   try dsimp only at H
   have A9 := zA b1; clear b1; replace H := Option.bind_eq_some_iff.mp H; obtain ⟨⟨c2, b2, b3⟩, b4, H⟩ := H
   try dsimp only at H
   have c3 := zA b4; clear b4; replace H := Option.bind_eq_some_iff.mp H; obtain ⟨⟨c5, c6, c8⟩, b5, H⟩ := H
   try dsimp only at H
   have c9 := zA b5; clear b5; replace H := zI1 H
   rcases H with ⟨a7, H⟩ | ⟨a7, H⟩
   ·exact absurd H (by simp)
   have d5 := beq_eq_false_iff_ne.mpr a7; have d6 := bne_iff_ne.mpr a7; simp only [zU] at H; obtain ⟨rfl, rfl, rfl⟩ := H
   go_wp2_with (first | ((with_reducible refine zq 123 ?_); refine zg (some 17) Tryd.func123 #[.pointer (some ⟨g, 0, none⟩)] ?_; (with_reducible refine (spec_l1Byte.calls g a2 a3 a4 c0 a9 b0 w0 _ ?s1 ?s2 A9.out).mono ?_); (case s1 => repeat (first | (with_reducible first | exact a0.out | apply IsS113.alloc | apply IsS113.drewN | apply IsS113.drew | apply IsS113.set_1 | apply IsS113.set_2) | exact a0.out)); (case s2 => repeat (first | (with_reducible first | exact HB.out | apply below_alloc | apply pw_below_drewN | apply below_drew1 | refine below_set ?_ (IsS113.ge a0.out)) | exact HB.out)); rintro e d7 ⟨rfl, hi, hb, hk⟩; refine ⟨_, rfl, ?_⟩; replace HK := zA (KeepBut.trans (zQ HK.out) hk (.inl rfl)); replace HB := zA (hb); replace a0 := zA (hi); (try clear hb hk hi)) | ((with_reducible refine zq 123 ?_); refine zg (some 19) Tryd.func123 #[.pointer (some ⟨g, 0, none⟩)] ?_; (with_reducible refine (spec_l1Byte.calls g a2 a9 b0 c2 b2 b3 w0 _ ?s1 ?s2 c3.out).mono ?_); (case s1 => repeat (first | (with_reducible first | exact a0.out | apply IsS113.alloc | apply IsS113.drewN | apply IsS113.drew | apply IsS113.set_1 | apply IsS113.set_2) | exact a0.out)); (case s2 => repeat (first | (with_reducible first | exact HB.out | apply below_alloc | apply pw_below_drewN | apply below_drew1 | refine below_set ?_ (IsS113.ge a0.out)) | exact HB.out)); rintro e d8 ⟨rfl, hi, hb, hk⟩; refine ⟨_, rfl, ?_⟩; replace HK := zA (KeepBut.trans (zQ HK.out) hk (.inl rfl)); replace HB := zA (hb); replace a0 := zA (hi); (try clear hb hk hi)) | ((with_reducible refine zq 123 ?_); refine zg (some 21) Tryd.func123 #[.pointer (some ⟨g, 0, none⟩)] ?_; (with_reducible refine (spec_l1Byte.calls g a2 b2 b3 c5 c6 c8 w0 _ ?s1 ?s2 c9.out).mono ?_); (case s1 => repeat (first | (with_reducible first | exact a0.out | apply IsS113.alloc | apply IsS113.drewN | apply IsS113.drew | apply IsS113.set_1 | apply IsS113.set_2) | exact a0.out)); (case s2 => repeat (first | (with_reducible first | exact HB.out | apply below_alloc | apply pw_below_drewN | apply below_drew1 | refine below_set ?_ (IsS113.ge a0.out)) | exact HB.out)); rintro e d9 ⟨rfl, hi, hb, hk⟩; refine ⟨_, rfl, ?_⟩; replace HK := zA (KeepBut.trans (zQ HK.out) hk (.inl rfl)); replace HB := zA (hb); replace a0 := zA (hi); (try clear hb hk hi)))
   go_ret
   exact ⟨zE, by repeat (first | (with_reducible first | exact a0.out | apply IsS113.alloc | apply IsS113.drewN | apply IsS113.drew | apply IsS113.set_1 | apply IsS113.set_2) | exact a0.out), zX HB.out (IsS113.ge a0.out), zQ HK.out⟩
/-! ### spec_l1Str: function 65 -/
def spec_l1Str.f (k : Nat) (a1 : List Int) (a2 a3 : Int) (l1 : List ByteArray) : Option (ByteArray × Int × Int) := (spec_l1Below.f k a1 a2 a3 (l1.length : Int)).bind fun a0 => (if 0 ≤ a0.1 then (if a0.1 < (l1.length : Int) then (some (rdOf ByteArray.empty l1 a0.1, a0.2.1, a0.2.2)) else (none)) else (none))
theorem spec_l1Str.calls (k g : Nat) (a1 : List Int) (a3 a4 : Int) (A1 : Option Addr) (c1 : Nat) (l1 : List ByteArray) (r1 : ByteArray) (r2 r3 : Int) (w0 w : World) (hI : IsS113 w0 w g a1 a3 a4) (hB : Below w0.heap.size w0 w) (a8 : Kd.C Kd.string w A1 l1.length l1) (a9 : l1.length ≤ c1) (a5 : ∀ ad, A1 = some ad → 0 < l1.length → ad.block ≠ g) (h : spec_l1Str.f k a1 a3 a4 l1 = some (r1, r2, r3)) :
  Calls Tryd.prog 65 #[.pointer (some ⟨g, 0, none⟩), .slice A1 l1.length c1] w fun e w' => e = .returned (.string r1) ∧ IsS113 w0 w' g a1 r2 r3 ∧ Below w0.heap.size w0 w' ∧ KeepBut w w' g none := by
 have b2 := zA a8
 have b7 := zA a9
 clear a8 a9
 have a0 := zA hI
 have HK := zA (KeepBut.refl w g none)
 have HL := zA hB.size
 clear hI
 have b8 := zA hB.size
 have HB := zA hB
 clear hB
 unfold spec_l1Str.f at h
 have H := h
 clear h
 replace H := Option.bind_eq_some_iff.mp H
 obtain ⟨⟨a2, b3, b4⟩, b0, H⟩ := H
 try dsimp only at H
 have A3 := zA b0
 clear b0
 replace H := zD0 H
 obtain ⟨b9, H⟩ := H
 replace H := zD0 H
 obtain ⟨c0, H⟩ := H
 simp only [zU] at H
 obtain ⟨rfl, rfl, rfl⟩ := H
 go_enter Tryd.func65, Tryd.ntmps65
 go_wp2_with (first | ((with_reducible refine zq 104 ?_); refine zg (some 9) Tryd.func104 #[.pointer (some ⟨g, 0, none⟩), .int .i64 (l1.length : Int)] ?_; (with_reducible refine (spec_l1Below.calls k g a1 a3 a4 (l1.length : Int) a2 b3 b4 w0 _ ?s1 ?s2 A3.out).mono ?_); (case s1 => repeat (first | (with_reducible first | exact a0.out | apply IsS113.alloc | apply IsS113.drewN | apply IsS113.drew | apply IsS113.set_1 | apply IsS113.set_2) | exact a0.out)); (case s2 => repeat (first | (with_reducible first | exact HB.out | apply below_alloc | apply pw_below_drewN | apply below_drew1 | refine below_set ?_ (IsS113.ge a0.out)) | exact HB.out)); rintro e w6 ⟨rfl, hi, hb, hk⟩; refine ⟨_, rfl, ?_⟩; replace HK := zA (KeepBut.trans (zQ HK.out) hk (.inl rfl)); replace HB := zA (hb); replace a0 := zA (hi); (try clear hb hk hi); have a6 : 0 ≤ (a2 : Int) := zD; have a7 : a2 < (l1.length : Int) := zD; obtain ⟨b5, b6, b1⟩ := Kd.at_string b2.out a2 a6 a7; cases b6; replace b1 := keep_cell HK.out b1 (by first | (rw [add_block]; exact a5 _ rfl (by omega)) | exact a5 _ rfl (by omega) | exact a5 b5 rfl (by omega)); replace a6 := eq_true a6; replace a7 := eq_true a7))
 go_ret
 exact ⟨zE, by repeat (first | (with_reducible first | exact a0.out | apply IsS113.alloc | apply IsS113.drewN | apply IsS113.drew | apply IsS113.set_1 | apply IsS113.set_2) | exact a0.out), zX HB.out (IsS113.ge a0.out), zQ HK.out⟩
/-! ### spec_l5Path: function 66 -/
def spec_l5Path.f (k : Nat) (a1 : List Int) (a2 a3 : Int) : Option (ByteArray × Int × Int) := (spec_l1Str.f k a1 a2 a3 (([(⟨#[97, 47, 120]⟩ : ByteArray), (⟨#[97, 47, 121]⟩ : ByteArray), (⟨#[97, 47, 115, 114, 99, 47, 109]⟩ : ByteArray), (⟨#[98, 47, 120]⟩ : ByteArray), (⟨#[98, 47, 116, 46, 109, 100]⟩ : ByteArray), (⟨#[99, 47, 120]⟩ : ByteArray), (⟨#[99, 47, 115, 114, 99, 47, 110, 46, 103, 111]⟩ : ByteArray), (⟨#[116, 111, 112]⟩ : ByteArray)] : List ByteArray))).bind fun a0 => (some (a0.1, a0.2.1, a0.2.2))
theorem spec_l5Path.calls (k g : Nat) (a1 : List Int) (a3 a4 : Int) (r1 : ByteArray) (r2 r3 : Int) (w0 w : World) (hI : IsS113 w0 w g a1 a3 a4) (hB : Below w0.heap.size w0 w) (h : spec_l5Path.f k a1 a3 a4 = some (r1, r2, r3)) :
  Calls Tryd.prog 66 #[.pointer (some ⟨g, 0, none⟩)] w fun e w' => e = .returned (.string r1) ∧ IsS113 w0 w' g a1 r2 r3 ∧ Below w0.heap.size w0 w' ∧ KeepBut w w' g none := by
 have a0 := zA hI
 have HK := zA (KeepBut.refl w g none)
 have HL := zA hB.size
 clear hI
 have b7 := zA hB.size
 have HB := zA hB
 clear hB
 unfold spec_l5Path.f at h
 have H := h
 clear h
 obtain ⟨a6, a7⟩ : ∃ y_ : List ByteArray, y_ = (([(⟨#[97, 47, 120]⟩ : ByteArray), (⟨#[97, 47, 121]⟩ : ByteArray), (⟨#[97, 47, 115, 114, 99, 47, 109]⟩ : ByteArray), (⟨#[98, 47, 120]⟩ : ByteArray), (⟨#[98, 47, 116, 46, 109, 100]⟩ : ByteArray), (⟨#[99, 47, 120]⟩ : ByteArray), (⟨#[99, 47, 115, 114, 99, 47, 110, 46, 103, 111]⟩ : ByteArray), (⟨#[116, 111, 112]⟩ : ByteArray)] : List ByteArray)) := ⟨_, rfl⟩
 replace H : ((spec_l1Str.f k a1 a3 a4 a6).bind fun a8 => (some (a8.1, a8.2.1, a8.2.2))) = some (r1, r2, r3) := zY a7 H
 have a9 := zA a7
 clear a7
 replace H := Option.bind_eq_some_iff.mp H
 obtain ⟨⟨b1, b2, b3⟩, b0, H⟩ := H
 try dsimp only at H
 have A2 := zA b0
 clear b0
 simp only [zU] at H
 obtain ⟨rfl, rfl, rfl⟩ := H
 go_enter Tryd.func66, Tryd.ntmps66
 go_wp2_with (first | ((with_reducible refine gate_dst (N := 4) rfl ?_); refine Kd.R_lit Kd.string _ 9 ?hg (N := 4) ?hd (xs := ([(⟨#[97, 47, 120]⟩ : ByteArray), (⟨#[97, 47, 121]⟩ : ByteArray), (⟨#[97, 47, 115, 114, 99, 47, 109]⟩ : ByteArray), (⟨#[98, 47, 120]⟩ : ByteArray), (⟨#[98, 47, 116, 46, 109, 100]⟩ : ByteArray), (⟨#[99, 47, 120]⟩ : ByteArray), (⟨#[99, 47, 115, 114, 99, 47, 110, 46, 103, 111]⟩ : ByteArray), (⟨#[116, 111, 112]⟩ : ByteArray)] : List ByteArray)) (inner := [.string (⟨#[97, 47, 120]⟩ : ByteArray), .string (⟨#[97, 47, 121]⟩ : ByteArray), .string (⟨#[97, 47, 115, 114, 99, 47, 109]⟩ : ByteArray), .string (⟨#[98, 47, 120]⟩ : ByteArray), .string (⟨#[98, 47, 116, 46, 109, 100]⟩ : ByteArray), .string (⟨#[99, 47, 120]⟩ : ByteArray), .string (⟨#[99, 47, 115, 114, 99, 47, 110, 46, 103, 111]⟩ : ByteArray), .string (⟨#[116, 111, 112]⟩ : ByteArray)]) (ok := fun _ => True) ?hr ?hp (fun _ hk => hk) trivial (Below.refl _ _) (Nat.le_refl _) (by simp) ?_; (case hd => rfl); (case hg => rfl); (case hr => first | (go_simp; done) | (go_simp; rfl)); (case hp => exact (Reps.one (show Kd.M Kd.string _ _ _ (⟨#[97, 47, 120]⟩ : ByteArray) [.string (⟨#[97, 47, 120]⟩ : ByteArray)] from rfl) (Reps.one (show Kd.M Kd.string _ _ _ (⟨#[97, 47, 121]⟩ : ByteArray) [.string (⟨#[97, 47, 121]⟩ : ByteArray)] from rfl) (Reps.one (show Kd.M Kd.string _ _ _ (⟨#[97, 47, 115, 114, 99, 47, 109]⟩ : ByteArray) [.string (⟨#[97, 47, 115, 114, 99, 47, 109]⟩ : ByteArray)] from rfl) (Reps.one (show Kd.M Kd.string _ _ _ (⟨#[98, 47, 120]⟩ : ByteArray) [.string (⟨#[98, 47, 120]⟩ : ByteArray)] from rfl) (Reps.one (show Kd.M Kd.string _ _ _ (⟨#[98, 47, 116, 46, 109, 100]⟩ : ByteArray) [.string (⟨#[98, 47, 116, 46, 109, 100]⟩ : ByteArray)] from rfl) (Reps.one (show Kd.M Kd.string _ _ _ (⟨#[99, 47, 120]⟩ : ByteArray) [.string (⟨#[99, 47, 120]⟩ : ByteArray)] from rfl) (Reps.one (show Kd.M Kd.string _ _ _ (⟨#[99, 47, 115, 114, 99, 47, 110, 46, 103, 111]⟩ : ByteArray) [.string (⟨#[99, 47, 115, 114, 99, 47, 110, 46, 103, 111]⟩ : ByteArray)] from rfl) (Reps.one (show Kd.M Kd.string _ _ _ (⟨#[116, 111, 112]⟩ : ByteArray) [.string (⟨#[116, 111, 112]⟩ : ByteArray)] from rfl) (Reps.none _ _)))))))))); intro b8 w3 a5 hb hg_ hnew_; clear hg_ hnew_; (first | rw [← a9.out] at a5 | (simp only [Int.reduceToNat] at a5; rw [← a9.out] at a5)); have a2 := zA (Kd.R_lower a5 (keep_size (w := w) (g := g) (row := none) (zQ HK.out))); replace HK := zA (KeepBut.trans (zQ HK.out) (KeepBut.of_below hb g none) (.inl rfl)); replace HB := zA (below_step (zX HB.out (IsS113.ge a0.out)) hb); replace a0 := zA (IsS113.below (by repeat (first | (with_reducible first | exact a0.out | apply IsS113.alloc | apply IsS113.drewN | apply IsS113.drew | apply IsS113.set_1 | apply IsS113.set_2) | exact a0.out)) hb); clear hb a5; obtain ⟨b4, b5, b6⟩ := Kd.R_slice a2.out; subst b6) | ((with_reducible refine zq 65 ?_); refine zg (some 5) Tryd.func65 #[.pointer (some ⟨g, 0, none⟩), .slice b4 a6.length b5] ?_; (with_reducible refine (spec_l1Str.calls k g a1 a3 a4 _ _ a6 b1 b2 b3 w0 _ ?s1 ?s2 ?s3 ?s4 ?s5 A2.out).mono ?_); (case s1 => repeat (first | (with_reducible first | exact a0.out | apply IsS113.alloc | apply IsS113.drewN | apply IsS113.drew | apply IsS113.set_1 | apply IsS113.set_2) | exact a0.out)); (case s2 => repeat (first | (with_reducible first | exact HB.out | apply below_alloc | apply pw_below_drewN | apply below_drew1 | refine below_set ?_ (IsS113.ge a0.out)) | exact HB.out)); (case s3 => repeat (first | exact (Kd.R_reads' a2.out).2.2 | (with_reducible refine Kd.C_alloc ?_ _) | (with_reducible refine Kd.C_drewN ?_ _) | (with_reducible refine Kd.C_drew ?_))); (case s4 => exact (Kd.R_reads' a2.out).2.1); (case s5 => exact far_slice (IsS113.own_ne a0.out a2.out (by decide))); rintro e w6 ⟨rfl, hi, hb, hk⟩; refine ⟨_, rfl, ?_⟩; replace a2 := zA (Kd.R_mono (Kd.R_keep (IsS113.apart (show IsS113 w0 _ g a1 a3 a4 from by repeat (first | (with_reducible first | exact a0.out | apply IsS113.alloc | apply IsS113.drewN | apply IsS113.drew | apply IsS113.set_1 | apply IsS113.set_2) | exact a0.out)) (zR a2.out) (by decide)) hk (fun _ h => h.2)) (fun _ h => h.1)); replace HK := zA (KeepBut.trans (zQ HK.out) hk (.inl rfl)); replace HB := zA (hb); replace a0 := zA (hi); (try clear hb hk hi)))
 go_ret
 exact ⟨zE, by repeat (first | (with_reducible first | exact a0.out | apply IsS113.alloc | apply IsS113.drewN | apply IsS113.drew | apply IsS113.set_1 | apply IsS113.set_2) | exact a0.out), zX HB.out (IsS113.ge a0.out), zQ HK.out⟩
/-! ### spec_DrawPathOk: function 18 -/
def spec_DrawPathOk.f (k : Nat) (l0 : List Int) : Option (ByteArray) := (spec_l1New.f k l0).bind fun a0 => ((spec_l5Path.f k a0.1 a0.2.1 a0.2.2).bind fun a1 => ((spec_l1Str.f k a0.1 a1.2.1 a1.2.2 (([(⟨#[]⟩ : ByteArray), (⟨#[97]⟩ : ByteArray), (⟨#[47, 97]⟩ : ByteArray), (⟨#[97, 47]⟩ : ByteArray), (⟨#[97, 47, 47, 98]⟩ : ByteArray), (⟨#[97, 47, 46, 47, 98]⟩ : ByteArray), (⟨#[46, 46]⟩ : ByteArray), (⟨#[97, 47, 46, 46]⟩ : ByteArray), (⟨#[97, 46, 98, 47, 95, 45]⟩ : ByteArray), (⟨#[65]⟩ : ByteArray), (⟨#[49, 47, 50, 47, 51, 47, 52]⟩ : ByteArray), (⟨#[49, 47, 50, 47, 51, 47, 52, 47, 53]⟩ : ByteArray), (⟨#[116, 119, 101, 108, 118, 101, 45, 98, 121, 116, 101, 115]⟩ : ByteArray), (⟨#[116, 104, 105, 114, 116, 101, 101, 110, 45, 98, 121, 116, 101]⟩ : ByteArray), (⟨#[97, 32, 98]⟩ : ByteArray), a1.1] : List ByteArray))).bind fun a2 => (some a2.1)))
theorem spec_DrawPathOk.calls (k : Nat) (A0 : Option Addr) (c0 : Nat) (l0 : List Int) (r : ByteArray) (w : World) (b0 : Kd.C (Kd.int .u8) w A0 l0.length l0) (b1 : l0.length ≤ c0) (h : spec_DrawPathOk.f k l0 = some r) :
  Calls Tryd.prog 18 #[.slice A0 l0.length c0] w fun e w' => e = .returned (.string r) ∧ Below w.heap.size w w' := by
 have b8 := zA b0
 have b9 := zA b1
 clear b0 b1
 have HB := zA (Below.refl w.heap.size w)
 unfold spec_DrawPathOk.f at h
 have H := h
 clear h
 replace H := Option.bind_eq_some_iff.mp H
 obtain ⟨⟨a3, b2, b3⟩, b4, H⟩ := H
 try dsimp only at H
 have A2 := zA b4
 clear b4
 replace H := Option.bind_eq_some_iff.mp H
 obtain ⟨⟨a1, a6, a7⟩, b5, H⟩ := H
 try dsimp only at H
 have A3 := zA b5
 clear b5
 obtain ⟨a8, a9⟩ : ∃ y_ : List ByteArray, y_ = (([(⟨#[]⟩ : ByteArray), (⟨#[97]⟩ : ByteArray), (⟨#[47, 97]⟩ : ByteArray), (⟨#[97, 47]⟩ : ByteArray), (⟨#[97, 47, 47, 98]⟩ : ByteArray), (⟨#[97, 47, 46, 47, 98]⟩ : ByteArray), (⟨#[46, 46]⟩ : ByteArray), (⟨#[97, 47, 46, 46]⟩ : ByteArray), (⟨#[97, 46, 98, 47, 95, 45]⟩ : ByteArray), (⟨#[65]⟩ : ByteArray), (⟨#[49, 47, 50, 47, 51, 47, 52]⟩ : ByteArray), (⟨#[49, 47, 50, 47, 51, 47, 52, 47, 53]⟩ : ByteArray), (⟨#[116, 119, 101, 108, 118, 101, 45, 98, 121, 116, 101, 115]⟩ : ByteArray), (⟨#[116, 104, 105, 114, 116, 101, 101, 110, 45, 98, 121, 116, 101]⟩ : ByteArray), (⟨#[97, 32, 98]⟩ : ByteArray), a1] : List ByteArray)) := ⟨_, rfl⟩
 replace H : ((spec_l1Str.f k a3 a6 a7 a8).bind fun c1 => (some c1.1)) = some r := zY a9 H
 have b6 := zA a9
 clear a9
 replace H := Option.bind_eq_some_iff.mp H
 obtain ⟨⟨c2, c3, c4⟩, b7, H⟩ := H
 try dsimp only at H
 have A4 := zA b7
 clear b7
 obtain rfl := zm H
 go_enter Tryd.func18, Tryd.ntmps18
 go_wp2_with (first | ((with_reducible refine zq 64 ?_); refine zg (some 5) Tryd.func64 #[.slice A0 l0.length c0] ?_; (with_reducible refine (spec_l1New.calls k _ _ l0 a3 b2 b3 w _ ?s1 ?s2 ?s3 A2.out).mono ?_); (case s1 => repeat (first | (with_reducible first | exact HB.out | apply below_alloc | apply pw_below_drewN | apply below_drew1) | exact HB.out)); (case s2 => exact b8.out); (case s3 => exact b9.out); rintro e w5 ⟨a4, rfl, hi, hb, c5⟩; refine ⟨_, rfl, ?_⟩; replace HB := zA (hb); have a0 := zA (hi); (try clear hb c5 hi)) | ((with_reducible refine zq 66 ?_); refine zg (some 8) Tryd.func66 #[.pointer (some ⟨a4, 0, none⟩)] ?_; (with_reducible refine (spec_l5Path.calls k a4 a3 b2 b3 a1 a6 a7 w _ ?s1 ?s2 A3.out).mono ?_); (case s1 => repeat (first | (with_reducible first | exact a0.out | apply IsS113.alloc | apply IsS113.drewN | apply IsS113.drew | apply IsS113.set_1 | apply IsS113.set_2) | exact a0.out)); (case s2 => repeat (first | (with_reducible first | exact HB.out | apply below_alloc | apply pw_below_drewN | apply below_drew1 | refine below_set ?_ (IsS113.ge a0.out)) | exact HB.out)); rintro e w6 ⟨rfl, hi, hb, hk⟩; refine ⟨_, rfl, ?_⟩; replace HB := zA (hb); replace a0 := zA (hi); (try clear hb hk hi)) | ((with_reducible refine gate_dst (N := 9) rfl ?_); refine Kd.R_lit Kd.string _ 9 ?hg (N := 9) ?hd (xs := ([(⟨#[]⟩ : ByteArray), (⟨#[97]⟩ : ByteArray), (⟨#[47, 97]⟩ : ByteArray), (⟨#[97, 47]⟩ : ByteArray), (⟨#[97, 47, 47, 98]⟩ : ByteArray), (⟨#[97, 47, 46, 47, 98]⟩ : ByteArray), (⟨#[46, 46]⟩ : ByteArray), (⟨#[97, 47, 46, 46]⟩ : ByteArray), (⟨#[97, 46, 98, 47, 95, 45]⟩ : ByteArray), (⟨#[65]⟩ : ByteArray), (⟨#[49, 47, 50, 47, 51, 47, 52]⟩ : ByteArray), (⟨#[49, 47, 50, 47, 51, 47, 52, 47, 53]⟩ : ByteArray), (⟨#[116, 119, 101, 108, 118, 101, 45, 98, 121, 116, 101, 115]⟩ : ByteArray), (⟨#[116, 104, 105, 114, 116, 101, 101, 110, 45, 98, 121, 116, 101]⟩ : ByteArray), (⟨#[97, 32, 98]⟩ : ByteArray), a1] : List ByteArray)) (inner := [.string (⟨#[]⟩ : ByteArray), .string (⟨#[97]⟩ : ByteArray), .string (⟨#[47, 97]⟩ : ByteArray), .string (⟨#[97, 47]⟩ : ByteArray), .string (⟨#[97, 47, 47, 98]⟩ : ByteArray), .string (⟨#[97, 47, 46, 47, 98]⟩ : ByteArray), .string (⟨#[46, 46]⟩ : ByteArray), .string (⟨#[97, 47, 46, 46]⟩ : ByteArray), .string (⟨#[97, 46, 98, 47, 95, 45]⟩ : ByteArray), .string (⟨#[65]⟩ : ByteArray), .string (⟨#[49, 47, 50, 47, 51, 47, 52]⟩ : ByteArray), .string (⟨#[49, 47, 50, 47, 51, 47, 52, 47, 53]⟩ : ByteArray), .string (⟨#[116, 119, 101, 108, 118, 101, 45, 98, 121, 116, 101, 115]⟩ : ByteArray), .string (⟨#[116, 104, 105, 114, 116, 101, 101, 110, 45, 98, 121, 116, 101]⟩ : ByteArray), .string (⟨#[97, 32, 98]⟩ : ByteArray), .string a1]) (ok := fun _ => True) ?hr ?hp (fun _ hk => hk) trivial (Below.refl _ _) (Nat.le_refl _) (by simp) ?_; (case hd => rfl); (case hg => rfl); (case hr => first | (go_simp; done) | (go_simp; rfl)); (case hp => exact (Reps.one (show Kd.M Kd.string _ _ _ (⟨#[]⟩ : ByteArray) [.string (⟨#[]⟩ : ByteArray)] from rfl) (Reps.one (show Kd.M Kd.string _ _ _ (⟨#[97]⟩ : ByteArray) [.string (⟨#[97]⟩ : ByteArray)] from rfl) (Reps.one (show Kd.M Kd.string _ _ _ (⟨#[47, 97]⟩ : ByteArray) [.string (⟨#[47, 97]⟩ : ByteArray)] from rfl) (Reps.one (show Kd.M Kd.string _ _ _ (⟨#[97, 47]⟩ : ByteArray) [.string (⟨#[97, 47]⟩ : ByteArray)] from rfl) (Reps.one (show Kd.M Kd.string _ _ _ (⟨#[97, 47, 47, 98]⟩ : ByteArray) [.string (⟨#[97, 47, 47, 98]⟩ : ByteArray)] from rfl) (Reps.one (show Kd.M Kd.string _ _ _ (⟨#[97, 47, 46, 47, 98]⟩ : ByteArray) [.string (⟨#[97, 47, 46, 47, 98]⟩ : ByteArray)] from rfl) (Reps.one (show Kd.M Kd.string _ _ _ (⟨#[46, 46]⟩ : ByteArray) [.string (⟨#[46, 46]⟩ : ByteArray)] from rfl) (Reps.one (show Kd.M Kd.string _ _ _ (⟨#[97, 47, 46, 46]⟩ : ByteArray) [.string (⟨#[97, 47, 46, 46]⟩ : ByteArray)] from rfl) (Reps.one (show Kd.M Kd.string _ _ _ (⟨#[97, 46, 98, 47, 95, 45]⟩ : ByteArray) [.string (⟨#[97, 46, 98, 47, 95, 45]⟩ : ByteArray)] from rfl) (Reps.one (show Kd.M Kd.string _ _ _ (⟨#[65]⟩ : ByteArray) [.string (⟨#[65]⟩ : ByteArray)] from rfl) (Reps.one (show Kd.M Kd.string _ _ _ (⟨#[49, 47, 50, 47, 51, 47, 52]⟩ : ByteArray) [.string (⟨#[49, 47, 50, 47, 51, 47, 52]⟩ : ByteArray)] from rfl) (Reps.one (show Kd.M Kd.string _ _ _ (⟨#[49, 47, 50, 47, 51, 47, 52, 47, 53]⟩ : ByteArray) [.string (⟨#[49, 47, 50, 47, 51, 47, 52, 47, 53]⟩ : ByteArray)] from rfl) (Reps.one (show Kd.M Kd.string _ _ _ (⟨#[116, 119, 101, 108, 118, 101, 45, 98, 121, 116, 101, 115]⟩ : ByteArray) [.string (⟨#[116, 119, 101, 108, 118, 101, 45, 98, 121, 116, 101, 115]⟩ : ByteArray)] from rfl) (Reps.one (show Kd.M Kd.string _ _ _ (⟨#[116, 104, 105, 114, 116, 101, 101, 110, 45, 98, 121, 116, 101]⟩ : ByteArray) [.string (⟨#[116, 104, 105, 114, 116, 101, 101, 110, 45, 98, 121, 116, 101]⟩ : ByteArray)] from rfl) (Reps.one (show Kd.M Kd.string _ _ _ (⟨#[97, 32, 98]⟩ : ByteArray) [.string (⟨#[97, 32, 98]⟩ : ByteArray)] from rfl) (Reps.one (show Kd.M Kd.string _ _ _ a1 [.string a1] from rfl) (Reps.none _ _)))))))))))))))))); intro c9 w7 a5 hb hg_ hnew_; clear hg_ hnew_; (first | rw [← b6.out] at a5 | (simp only [Int.reduceToNat] at a5; rw [← b6.out] at a5)); have a2 := zA (Kd.R_lower a5 (below_size (zX HB.out (IsS113.ge a0.out)))); replace HB := zA (below_step (zX HB.out (IsS113.ge a0.out)) hb); replace a0 := zA (IsS113.below (by repeat (first | (with_reducible first | exact a0.out | apply IsS113.alloc | apply IsS113.drewN | apply IsS113.drew | apply IsS113.set_1 | apply IsS113.set_2) | exact a0.out)) hb); clear hb a5; obtain ⟨c6, c7, c8⟩ := Kd.R_slice a2.out; subst c8) | ((with_reducible refine zq 65 ?_); refine zg (some 10) Tryd.func65 #[.pointer (some ⟨a4, 0, none⟩), .slice c6 a8.length c7] ?_; (with_reducible refine (spec_l1Str.calls k a4 a3 a6 a7 _ _ a8 c2 c3 c4 w _ ?s1 ?s2 ?s3 ?s4 ?s5 A4.out).mono ?_); (case s1 => repeat (first | (with_reducible first | exact a0.out | apply IsS113.alloc | apply IsS113.drewN | apply IsS113.drew | apply IsS113.set_1 | apply IsS113.set_2) | exact a0.out)); (case s2 => repeat (first | (with_reducible first | exact HB.out | apply below_alloc | apply pw_below_drewN | apply below_drew1 | refine below_set ?_ (IsS113.ge a0.out)) | exact HB.out)); (case s3 => repeat (first | exact (Kd.R_reads' a2.out).2.2 | (with_reducible refine Kd.C_alloc ?_ _) | (with_reducible refine Kd.C_drewN ?_ _) | (with_reducible refine Kd.C_drew ?_))); (case s4 => exact (Kd.R_reads' a2.out).2.1); (case s5 => exact far_slice (IsS113.own_ne a0.out a2.out (by decide))); rintro e d0 ⟨rfl, hi, hb, hk⟩; refine ⟨_, rfl, ?_⟩; replace a2 := zA (Kd.R_mono (Kd.R_keep (IsS113.apart (show IsS113 w _ a4 a3 a6 a7 from by repeat (first | (with_reducible first | exact a0.out | apply IsS113.alloc | apply IsS113.drewN | apply IsS113.drew | apply IsS113.set_1 | apply IsS113.set_2) | exact a0.out)) (zR a2.out) (by decide)) hk (fun _ h => h.2)) (fun _ h => h.1)); replace HB := zA (hb); replace a0 := zA (hi); (try clear hb hk hi)))
 go_ret
 exact ⟨zE, zX HB.out (IsS113.ge a0.out)⟩
/-! ### spec_NumText: function 51 -/
mutual
def spec_NumText.j0 : Nat → Int → Option (ByteArray)
 | 0, _ => none
 | k + 1, x0 => spec_NumText.l0 k x0 (strOfNums (([(wrap64 (48 + (Int.tmod x0 10))) % 256] : List Int)))
def spec_NumText.l0 : Nat → Int → ByteArray → Option (ByteArray)
 | 0, _, _ => none
 | k + 1, x0, x3 => if x0 > 9 then ((some (([(wrap64 (48 + (Int.tmod (wrap64 (Int.tdiv x0 10)) 10))) % 256] : List Int) : List Int)).bind fun a0 => (if (strOfNums a0).size + x3.size ≤ 9223372036854775807 then (spec_NumText.l0 k (wrap64 (Int.tdiv x0 10)) ((strOfNums a0) ++ x3)) else (none))) else (some x3)
end
def spec_NumText.f (k : Nat) (a0 : Int) : Option (ByteArray) := if a0 < 0 then (spec_NumText.j0 k 0) else (spec_NumText.j0 k a0)
theorem spec_NumText.calls (k : Nat) (a0 : Int) (r : ByteArray) (w : World) (h : spec_NumText.f k a0 = some r) :
  Calls Tryd.prog 51 #[.int .i64 a0] w fun e w' => e = .returned (.string r) ∧ Below w.heap.size w w' := by
 have HB := zA (Below.refl w.heap.size w)
 unfold spec_NumText.f at h
 have H := h
 clear h
 have a8 := zA H
 clear H
 go_enter Tryd.func51, Tryd.ntmps51
 go_upto_if 5 with (fail)
 go_cut [0] (fun v0 wc => ∃ (kq : Nat) (a2 : Int), v0 = .int .i64 a2 ∧ Aside0 (spec_NumText.j0 kq a2 = some r) ∧ Aside0 (kq ≤ k) ∧ Aside0 (Below w.heap.size w wc))
 case first =>
  have H := a8.out; clear a8; replace H := zI0 H
  rcases H with ⟨a3, H⟩ | ⟨a3, H⟩
  ·(first | rw [a3] | (simp only [i64_w, i32_w]; rw [a3]) | skip)
   have H' := zA H; clear H
   go_wp2
   go_meet
   case rel => exact ⟨_, (0), zS, (by first | exact H' | (subst_vars; exact H')), ⟨by first | omega | exact Nat.le_refl _⟩, ⟨zB⟩⟩
  (first | rw [a3] | (simp only [i64_w, i32_w]; rw [a3]) | skip)
  have H' := zA H; clear H
  go_wp2
  go_meet
  case rel => exact ⟨_, (a0), zS, (by first | exact H' | (subst_vars; exact H')), ⟨by first | omega | exact Nat.le_refl _⟩, ⟨zB⟩⟩
 case rest =>
  clear a8
  try clear p2
  try clear c3
  try clear a3
  obtain ⟨kq, a2, rfl, HA, b2, HB⟩ := hcut
  cases kq with
  | zero => exact absurd HA.out (by simp [spec_NumText.j0])
  | succ a9 =>
   have H := HA.out; clear HA; simp only [spec_NumText.j0] at H; obtain ⟨b3, b0⟩ : ∃ y_ : List Int, y_ = (([(wrap64 (48 + (Int.tmod a2 10))) % 256] : List Int)) := ⟨_, rfl⟩; replace H : (spec_NumText.l0 a9 a2 (strOfNums b3)) = some r := zY b0 H; have b4 := zA b0; clear b0; have H' := zA H; clear H
   go_wp2_with (first | ((with_reducible refine gate_dst (N := 10) rfl ?_); refine Kd.R_lit (Kd.int .u8) _ 5 ?hg (N := 10) ?hd (xs := ([(wrap64 (48 + (Int.tmod a2 10))) % 256] : List Int)) (inner := [.int .u8 ((wrap64 (48 + (Int.tmod a2 10))) % 256)]) (ok := fun _ => True) ?hr ?hp (fun _ hk => hk) trivial (Below.refl _ _) (Nat.le_refl _) (by simp) ?_; (case hd => rfl); (case hg => rfl); (case hr => first | (go_simp; done) | (go_simp; rfl)); (case hp => exact (Reps.one (show Kd.M (Kd.int .u8) _ _ _ ((wrap64 (48 + (Int.tmod a2 10))) % 256) [.int .u8 ((wrap64 (48 + (Int.tmod a2 10))) % 256)] from rfl) (Reps.none _ _))); intro c1 w4 a5 hb hg_ hnew_; clear hg_ hnew_; (first | rw [← b4.out] at a5 | (simp only [Int.reduceToNat] at a5; rw [← b4.out] at a5)); have b7 := zA (Kd.R_lower a5 (below_size (zB))); replace HB := zA (below_step (zB) hb); clear hb a5; have b8 := own_string (P := Tryd.prog) Tryd.underlying36 Tryd.underlying5 Tryd.underlying9 (Kd.own_of_R b7.out)))
   go_loopg [0, 3] a9 (fun kq v0 v3 w' => ∃ (a1 : Int) (a4 : ByteArray), v0 = .int .i64 a1 ∧ v3 = .string a4 ∧ Aside0 (spec_NumText.l0 kq a1 a4 = some r) ∧ Aside0 (kq ≤ a9) ∧ Aside0 (Below w.heap.size w w'))
   case atStart => exact ⟨(a2), (strOfNums b3), zS, zS, H', ⟨Nat.le_refl _⟩, ⟨zB⟩⟩
   case round =>
    clear H'
    try clear p2
    try clear c3
    try clear a3
    try clear c5
    try clear p6
    try clear b8
    try clear p2
    obtain ⟨a1, a4, rfl, rfl, HA, b5, HB⟩ := hrel
    cases gk with
    | zero => exact absurd HA.out (by simp [spec_NumText.l0])
    | succ k2 =>
     have H := HA.out; clear HA; simp only [spec_NumText.l0] at H; replace H := zI1 H
     rcases H with ⟨c7, H⟩ | ⟨c7, H⟩
     ·have b9 : decide (9 < a1) = true := decide_eq_true c7; clear c7; obtain ⟨a7, b1⟩ : ∃ y_ : List Int, y_ = (([(wrap64 (48 + (Int.tmod (wrap64 (Int.tdiv a1 10)) 10))) % 256] : List Int)) := ⟨_, rfl⟩; replace H : (if (strOfNums a7).size + a4.size ≤ 9223372036854775807 then (spec_NumText.l0 k2 (wrap64 (Int.tdiv a1 10)) ((strOfNums a7) ++ a4)) else (none)) = some r := zY b1 H; have b6 := zA b1; clear b1; replace H := zC0 H; obtain ⟨c8, H⟩ := H; have c2 := eq_true c8; have c4 := decide_eq_true c8
      try have c6 : (9223372036854775807 < (strOfNums a7).size + a4.size) = False := eq_false (Nat.not_lt.2 c8)
      have H' := zA H; clear H
      go_wp2_with (first | ((with_reducible refine gate_dst (N := 20) rfl ?_); refine Kd.R_lit (Kd.int .u8) _ 5 ?hg (N := 20) ?hd (xs := ([(wrap64 (48 + (Int.tmod (wrap64 (Int.tdiv a1 10)) 10))) % 256] : List Int)) (inner := [.int .u8 ((wrap64 (48 + (Int.tmod (wrap64 (Int.tdiv a1 10)) 10))) % 256)]) (ok := fun _ => True) ?hr ?hp (fun _ hk => hk) trivial (Below.refl _ _) (Nat.le_refl _) (by simp) ?_; (case hd => rfl); (case hg => rfl); (case hr => first | (go_simp; done) | (go_simp; rfl)); (case hp => exact (Reps.one (show Kd.M (Kd.int .u8) _ _ _ ((wrap64 (48 + (Int.tmod (wrap64 (Int.tdiv a1 10)) 10))) % 256) [.int .u8 ((wrap64 (48 + (Int.tmod (wrap64 (Int.tdiv a1 10)) 10))) % 256)] from rfl) (Reps.none _ _))); intro c9 w9 a6 hb hg_ hnew_; clear hg_ hnew_; (first | rw [← b6.out] at a6 | (simp only [Int.reduceToNat] at a6; rw [← b6.out] at a6)); have c0 := zA (Kd.R_lower a6 (below_size (zB))); replace HB := zA (below_step (zB) hb); clear hb a6; have d0 := own_string (P := Tryd.prog) Tryd.underlying36 Tryd.underlying5 Tryd.underlying9 (Kd.own_of_R c0.out)))
      go_roundg k2
      case measure => have := b2.out; have := b5.out; omega
      case rel => exact ⟨(wrap64 (Int.tdiv a1 10)), ((strOfNums a7) ++ a4), zS, zS, H', ⟨by have := b2.out; have := b5.out; omega⟩, ⟨zB⟩⟩
     have b9 : decide (9 < a1) = false := decide_eq_false c7; clear c7; obtain rfl := zm H
     go_wp2
     go_ret
     exact ⟨zE, zB⟩
/-! ### spec_Split: function 75 -/
def spec_Split.l0 : Nat → ByteArray → Int → List ByteArray → Int → Int → Option (List ByteArray)
 | 0, _, _, _, _, _ => none
 | k + 1, x0, x1, x5, x6, x7 => if x7 ≤ (x0.size : Int) then (if x7 = (x0.size : Int) then (if 0 ≤ x6 then (if x6 ≤ x7 then (if x5.length < 8796093022208 then (spec_Split.l0 k x0 x1 (x5 ++ [x0.extract (x6 : Int).toNat (x7 : Int).toNat]) (wrap64 (x7 + 1)) (wrap64 (x7 + 1))) else (none)) else (none)) else (none)) else (if 0 ≤ x7 then (if x7 < (x0.size : Int) then (if (bt x0 x7) = x1 then (if 0 ≤ x6 then (if x6 ≤ x7 then (if x5.length < 8796093022208 then (spec_Split.l0 k x0 x1 (x5 ++ [x0.extract (x6 : Int).toNat (x7 : Int).toNat]) (wrap64 (x7 + 1)) (wrap64 (x7 + 1))) else (none)) else (none)) else (none)) else (spec_Split.l0 k x0 x1 x5 x6 (wrap64 (x7 + 1)))) else (none)) else (none))) else (some x5)
def spec_Split.f (k : Nat) (a0 : ByteArray) (a1 : Int) : Option (List ByteArray) := spec_Split.l0 k a0 a1 (([] : List ByteArray)) 0 0
theorem spec_Split.calls (k : Nat) (a0 : ByteArray) (a1 : Int) (r : List ByteArray) (w : World) (h : spec_Split.f k a0 a1 = some r) :
  Calls Tryd.prog 75 #[.string a0, .int .u8 a1] w fun e w' => ∃ b6 : Value, e = .returned (b6) ∧ Kd.R Kd.string 9 w' w.heap.size (fun _ => True) b6 r ∧ Below w.heap.size w w' := by
 have HB := zA (Below.refl w.heap.size w)
 unfold spec_Split.f at h
 have H := h
 clear h
 obtain ⟨b7, b1⟩ : ∃ y_ : List ByteArray, y_ = (([] : List ByteArray)) := ⟨_, rfl⟩
 replace H : (spec_Split.l0 k a0 a1 b7 0 0) = some r := zY b1 H
 have b8 := zA b1
 clear b1
 have H' := zA H
 clear H
 go_enter Tryd.func75, Tryd.ntmps75
 go_wp2_with (first | ((with_reducible refine gate_dst (N := 8) rfl ?_); refine Kd.R_lit Kd.string _ 9 ?hg (N := 8) ?hd (xs := ([] : List ByteArray)) (inner := []) (ok := fun _ => True) ?hr ?hp (fun _ hk => hk) trivial (Below.refl _ _) (Nat.le_refl _) (by simp) ?_; (case hd => rfl); (case hg => rfl); (case hr => first | (go_simp; done) | (go_simp; rfl)); (case hp => exact (Reps.none _ _)); intro d9 w3 a8 hb hg_ hnew_; clear hg_ hnew_; (first | rw [← b8.out] at a8 | (simp only [Int.reduceToNat] at a8; rw [← b8.out] at a8)); have c3 := zA (Kd.R_lower a8 (below_size (zB))); replace HB := zA (below_step (zB) hb); clear hb a8))
 go_loopg [5, 6, 7] k (fun kq v5 v6 v7 w' => ∃ (a4 : List ByteArray) (a3 : Int) (a2 : Int), v6 = .int .i64 a3 ∧ v7 = .int .i64 a2 ∧ Aside0 (spec_Split.l0 kq a0 a1 a4 a3 a2 = some r) ∧ Aside0 (kq ≤ k) ∧ Aside0 (Kd.R Kd.string 9 w' w.heap.size (fun _ => True) v5 a4) ∧ Aside0 (Below w.heap.size w w'))
 case atStart => exact ⟨(b7), (0), (0), zS, zS, H', ⟨Nat.le_refl _⟩, ⟨zR c3.out⟩, ⟨zB⟩⟩
 case round =>
  clear H'
  try clear p2
  obtain ⟨a4, a3, a2, rfl, rfl, HA, a5, a6, HB⟩ := hrel
  cases gk with
  | zero => exact absurd HA.out (by simp [spec_Split.l0])
  | succ k1 =>
   have H := HA.out; clear HA; simp only [spec_Split.l0] at H; replace H := zI0 H
   rcases H with ⟨c4, H⟩ | ⟨c4, H⟩
   ·replace H := zI1 H
    rcases H with ⟨c6, H⟩ | ⟨c6, H⟩
    ·have c5 := beq_iff_eq.mpr c6; have c9 := bne_eq_false_iff_eq.mpr c6; clear c6; replace H := zC0 H; obtain ⟨c7, H⟩ := H; have e0 := eq_true c7; have e1 := decide_eq_true c7; clear c7; replace H := zC0 H; obtain ⟨c8, H⟩ := H; have e2 := eq_true c8; have e3 := decide_eq_true c8; clear c8; have e4 := eq_true (zD : a2 ≤ (a0.size : Int)); replace H := zC0 H; obtain ⟨b9, H⟩ := H; have d0 := zA b9; clear b9; obtain ⟨c0, b2⟩ : ∃ y_ : List ByteArray, y_ = (a4 ++ [a0.extract (a3 : Int).toNat (a2 : Int).toNat]) := ⟨_, rfl⟩; replace H : (spec_Split.l0 k1 a0 a1 c0 (wrap64 (a2 + 1)) (wrap64 (a2 + 1))) = some r := zY b2 H; have d1 := zA b2; clear b2; have H' := zA H; clear H
     go_wp2_with (first | ((with_reducible refine gate_builtin (b := .append) (xs := #[.tmp 26, .tmp 31]) rfl ?_); at_builtin; refine Kd.R_append Kd.string (w0 := w) w.heap.size rfl (.tmp 26) (.tmp 31) 47 9 (.string ⟨#[]⟩) 16 rfl Tryd.underlying47 info9 rfl (by decide) (by omega) u5 a4 (a0.extract (a3 : Int).toNat (a2 : Int).toNat) [.string (a0.extract (a3 : Int).toNat (a2 : Int).toNat)] (fun _ => True) (fun _ => False) rfl rfl ?aP (fun _ hk => hk.elim) ?aF ?aO ?aB ?aS ?aL ?_; (case aP => exact rfl); (case aB => exact (zB)); (case aF => exact (fun _ _ => trivial)); (case aO => exact (zR a6.out)); (case aS => exact (below_size (zB))); (case aL => have := d0.out; omega); intro e5 e6 ho hb hg hat; rw [← d1.out] at ho; replace HB := zA (hb); have d2 := zA (ho); clear a6; clear ho hb hg hat))
     go_roundg k1
     case measure => have := a5.out; omega
     case rel => exact ⟨(c0), (wrap64 (a2 + 1)), (wrap64 (a2 + 1)), zS, zS, H', ⟨by have := a5.out; omega⟩, ⟨zR d2.out⟩, ⟨zB⟩⟩
    have c5 := beq_eq_false_iff_ne.mpr c6; have c9 := bne_iff_ne.mpr c6; replace H := zD0 H; obtain ⟨e7, H⟩ := H; replace H := zD0 H; obtain ⟨e8, H⟩ := H; replace H := zI1 H
    rcases H with ⟨a7, H⟩ | ⟨a7, H⟩
    ·have d3 := beq_iff_eq.mpr a7; have d4 := bne_eq_false_iff_eq.mpr a7; clear a7; replace H := zC0 H; obtain ⟨b3, H⟩ := H; have e9 := eq_true b3; have f0 := decide_eq_true b3; clear b3; replace H := zC0 H; obtain ⟨b4, H⟩ := H; have f1 := eq_true b4; have f2 := decide_eq_true b4; clear b4; have f3 := eq_true (zD : a2 ≤ (a0.size : Int)); replace H := zC0 H; obtain ⟨c1, H⟩ := H; have d5 := zA c1; clear c1; obtain ⟨c2, b5⟩ : ∃ y_ : List ByteArray, y_ = (a4 ++ [a0.extract (a3 : Int).toNat (a2 : Int).toNat]) := ⟨_, rfl⟩; replace H : (spec_Split.l0 k1 a0 a1 c2 (wrap64 (a2 + 1)) (wrap64 (a2 + 1))) = some r := zY b5 H; have d6 := zA b5; clear b5; have H' := zA H; clear H; have a9 : 0 ≤ (a2 : Int) := zD; have b0 : a2 < (a0.size : Int) := zD; have d7 := bt_at a0 a2; replace a9 := eq_true a9; replace b0 := eq_true b0
     go_wp2_with (first | ((with_reducible refine gate_builtin (b := .append) (xs := #[.tmp 26, .tmp 31]) rfl ?_); at_builtin; refine Kd.R_append Kd.string (w0 := w) w.heap.size rfl (.tmp 26) (.tmp 31) 47 9 (.string ⟨#[]⟩) 16 rfl Tryd.underlying47 info9 rfl (by decide) (by omega) u5 a4 (a0.extract (a3 : Int).toNat (a2 : Int).toNat) [.string (a0.extract (a3 : Int).toNat (a2 : Int).toNat)] (fun _ => True) (fun _ => False) rfl rfl ?aP (fun _ hk => hk.elim) ?aF ?aO ?aB ?aS ?aL ?_; (case aP => exact rfl); (case aB => exact (zB)); (case aF => exact (fun _ _ => trivial)); (case aO => exact (zR a6.out)); (case aS => exact (below_size (zB))); (case aL => have := d5.out; omega); intro f4 f5 ho hb hg hat; rw [← d6.out] at ho; replace HB := zA (hb); have d8 := zA (ho); clear a6; clear ho hb hg hat))
     go_roundg k1
     case measure => have := a5.out; omega
     case rel => exact ⟨(c2), (wrap64 (a2 + 1)), (wrap64 (a2 + 1)), zS, zS, H', ⟨by have := a5.out; omega⟩, ⟨zR d8.out⟩, ⟨zB⟩⟩
    have d3 := beq_eq_false_iff_ne.mpr a7; have d4 := bne_iff_ne.mpr a7; have H' := zA H; clear H; have a9 : 0 ≤ (a2 : Int) := zD; have b0 : a2 < (a0.size : Int) := zD; have d7 := bt_at a0 a2; replace a9 := eq_true a9; replace b0 := eq_true b0
    go_wp2
    go_roundg k1
    case measure => have := a5.out; omega
    case rel => exact ⟨(a4), (a3), (wrap64 (a2 + 1)), zS, zS, H', ⟨by have := a5.out; omega⟩, ⟨zR a6.out⟩, ⟨zB⟩⟩
   obtain rfl := zm H
   go_wp2
   go_ret
   exact ⟨_, zE, zR a6.out, zB⟩
/-! ### spec_l1In: function 84 -/
def spec_l1In.f (a0 a1 a2 : Int) : Option (Bool) := if a0 ≥ a1 then (some (decide (a0 ≤ a2))) else (some false)
theorem spec_l1In.calls (a0 a1 a2 : Int) (r : Bool) (w : World) (h : spec_l1In.f a0 a1 a2 = some r) :
  Calls Tryd.prog 84 #[.int .i64 a0, .int .i64 a1, .int .i64 a2] w fun e w' => e = .returned (.bool r) ∧ Drawn0 w w' := by
 unfold spec_l1In.f at h
 have H := h
 clear h
 replace H := zI1 H
 rcases H with ⟨c4, H⟩ | ⟨c4, H⟩
 ·have a3 : decide (a1 ≤ a0) = true := decide_eq_true c4; clear c4; obtain rfl := zm H
  go_enter Tryd.func84, Tryd.ntmps84
  go_wp2
  go_ret
  exact ⟨by first | rfl | (simp; done) | (simp [*]; done) | (simp; rw [Bool.eq_iff_iff]; simp; done), by repeat (first | exact Drawn0.refl _ | apply Drawn0.step)⟩
 have a3 : decide (a1 ≤ a0) = false := decide_eq_false c4
 clear c4
 obtain rfl := zm H
 go_enter Tryd.func84, Tryd.ntmps84
 go_wp2
 go_ret
 exact ⟨by first | rfl | (simp; done) | (simp [*]; done) | (simp; rw [Bool.eq_iff_iff]; simp; done), by repeat (first | exact Drawn0.refl _ | apply Drawn0.step)⟩
/-! ### spec_l1Digit: function 83 -/
def spec_l1Digit.f (a0 : Int) : Option (Bool) := (spec_l1In.f (wrap64 (a0)) 48 57).bind fun a1 => (some a1)
theorem spec_l1Digit.calls (a0 : Int) (r : Bool) (w : World) (h : spec_l1Digit.f a0 = some r) :
  Calls Tryd.prog 83 #[.int .u8 a0] w fun e w' => e = .returned (.bool r) ∧ Drawn0 w w' := by
 unfold spec_l1Digit.f at h
 have H := h
 clear h
 replace H := Option.bind_eq_some_iff.mp H
 obtain ⟨a2, a1, H⟩ := H
 try dsimp only at H
 have A2 := zA a1
 clear a1
 obtain rfl := zm H
 go_enter Tryd.func83, Tryd.ntmps83
 go_wp2_with (first | ((with_reducible refine zq 84 ?_); refine zg (some 5) Tryd.func84 #[.int .i64 (wrap64 (a0)), .int .i64 48, .int .i64 57] ?_; (with_reducible refine (spec_l1In.calls (wrap64 (a0)) 48 57 a2 _ A2.out).mono ?_); rintro e w' ⟨rfl, ⟨nd, rfl⟩⟩; refine ⟨_, rfl, ?_⟩))
 go_ret
 exact ⟨by first | rfl | (simp; done) | (simp [*]; done) | (simp; rw [Bool.eq_iff_iff]; simp; done), by repeat (first | exact Drawn0.refl _ | apply Drawn0.step)⟩
/-! ### spec_l1Small: function 128 -/
def spec_l1Small.f (a0 : Int) : Option (Bool) := (spec_l1In.f (wrap64 (a0)) 97 122).bind fun a1 => (some a1)
theorem spec_l1Small.calls (a0 : Int) (r : Bool) (w : World) (h : spec_l1Small.f a0 = some r) :
  Calls Tryd.prog 128 #[.int .u8 a0] w fun e w' => e = .returned (.bool r) ∧ Drawn0 w w' := by
 unfold spec_l1Small.f at h
 have H := h
 clear h
 replace H := Option.bind_eq_some_iff.mp H
 obtain ⟨a2, a1, H⟩ := H
 try dsimp only at H
 have A2 := zA a1
 clear a1
 obtain rfl := zm H
 go_enter Tryd.func128, Tryd.ntmps128
 go_wp2_with (first | ((with_reducible refine zq 84 ?_); refine zg (some 5) Tryd.func84 #[.int .i64 (wrap64 (a0)), .int .i64 97, .int .i64 122] ?_; (with_reducible refine (spec_l1In.calls (wrap64 (a0)) 97 122 a2 _ A2.out).mono ?_); rintro e w' ⟨rfl, ⟨nd, rfl⟩⟩; refine ⟨_, rfl, ?_⟩))
 go_ret
 exact ⟨by first | rfl | (simp; done) | (simp [*]; done) | (simp; rw [Bool.eq_iff_iff]; simp; done), by repeat (first | exact Drawn0.refl _ | apply Drawn0.step)⟩
/-! ### spec_l5Letter: function 108 -/
def spec_l5Letter.f (a0 : Int) : Option (Bool) := (spec_l1Small.f a0).bind fun a1 => (if a1 = true then (some true) else ((spec_l1Digit.f a0).bind fun a2 => (if a2 = true then (some true) else (if a0 = 46 then (some true) else (if a0 = 45 then (some true) else (some (a0 == 95)))))))
theorem spec_l5Letter.calls (a0 : Int) (r : Bool) (w : World) (h : spec_l5Letter.f a0 = some r) :
  Calls Tryd.prog 108 #[.int .u8 a0] w fun e w' => e = .returned (.bool r) ∧ Drawn0 w w' := by
 unfold spec_l5Letter.f at h
 have H := h
 clear h
 replace H := Option.bind_eq_some_iff.mp H
 obtain ⟨a7, a1, H⟩ := H
 try dsimp only at H
 have A2 := zA a1
 clear a1
 replace H := zB0 H
 rcases H with ⟨rfl, H⟩ | ⟨rfl, H⟩
 ·obtain rfl := zm H
  go_enter Tryd.func108, Tryd.ntmps108
  go_wp2_with (first | ((with_reducible refine zq 128 ?_); refine zg (some 4) Tryd.func128 #[.int .u8 a0] ?_; (with_reducible refine (spec_l1Small.calls a0 true _ A2.out).mono ?_); rintro e w' ⟨rfl, ⟨nd, rfl⟩⟩; refine ⟨_, rfl, ?_⟩))
  go_ret
  exact ⟨by first | rfl | (simp; done) | (simp [*]; done) | (simp; rw [Bool.eq_iff_iff]; simp; done), by repeat (first | exact Drawn0.refl _ | apply Drawn0.step)⟩
 replace H := Option.bind_eq_some_iff.mp H
 obtain ⟨a8, a2, H⟩ := H
 try dsimp only at H
 have A4 := zA a2
 clear a2
 replace H := zB0 H
 rcases H with ⟨rfl, H⟩ | ⟨rfl, H⟩
 ·obtain rfl := zm H
  go_enter Tryd.func108, Tryd.ntmps108
  go_wp2_with (first | ((with_reducible refine zq 128 ?_); refine zg (some 4) Tryd.func128 #[.int .u8 a0] ?_; (with_reducible refine (spec_l1Small.calls a0 false _ A2.out).mono ?_); rintro e w' ⟨rfl, ⟨nd, rfl⟩⟩; refine ⟨_, rfl, ?_⟩) | (go_at_call 83; (with_reducible refine (spec_l1Digit.calls a0 true _ A4.out).mono ?_); rintro e w' ⟨rfl, ⟨nd, rfl⟩⟩))
  go_ret
  exact ⟨by first | rfl | (simp; done) | (simp [*]; done) | (simp; rw [Bool.eq_iff_iff]; simp; done), by repeat (first | exact Drawn0.refl _ | apply Drawn0.step)⟩
 replace H := zI1 H
 rcases H with ⟨c6, H⟩ | ⟨c6, H⟩
 ·have a3 := beq_iff_eq.mpr c6; have a4 := bne_eq_false_iff_eq.mpr c6; clear c6; obtain rfl := zm H
  go_enter Tryd.func108, Tryd.ntmps108
  go_wp2_with (first | ((with_reducible refine zq 128 ?_); refine zg (some 4) Tryd.func128 #[.int .u8 a0] ?_; (with_reducible refine (spec_l1Small.calls a0 false _ A2.out).mono ?_); rintro e w' ⟨rfl, ⟨nd, rfl⟩⟩; refine ⟨_, rfl, ?_⟩) | (go_at_call 83; (with_reducible refine (spec_l1Digit.calls a0 false _ A4.out).mono ?_); rintro e w' ⟨rfl, ⟨nd, rfl⟩⟩))
  go_ret
  exact ⟨by first | rfl | (simp; done) | (simp [*]; done) | (simp; rw [Bool.eq_iff_iff]; simp; done), by repeat (first | exact Drawn0.refl _ | apply Drawn0.step)⟩
 have a3 := beq_eq_false_iff_ne.mpr c6
 have a4 := bne_iff_ne.mpr c6
 replace H := zI1 H
 rcases H with ⟨c7, H⟩ | ⟨c7, H⟩
 ·have a5 := beq_iff_eq.mpr c7; have a6 := bne_eq_false_iff_eq.mpr c7; clear c7; obtain rfl := zm H
  go_enter Tryd.func108, Tryd.ntmps108
  go_wp2_with (first | ((with_reducible refine zq 128 ?_); refine zg (some 4) Tryd.func128 #[.int .u8 a0] ?_; (with_reducible refine (spec_l1Small.calls a0 false _ A2.out).mono ?_); rintro e w' ⟨rfl, ⟨nd, rfl⟩⟩; refine ⟨_, rfl, ?_⟩) | (go_at_call 83; (with_reducible refine (spec_l1Digit.calls a0 false _ A4.out).mono ?_); rintro e w' ⟨rfl, ⟨nd, rfl⟩⟩))
  go_ret
  exact ⟨by first | rfl | (simp; done) | (simp [*]; done) | (simp; rw [Bool.eq_iff_iff]; simp; done), by repeat (first | exact Drawn0.refl _ | apply Drawn0.step)⟩
 have a5 := beq_eq_false_iff_ne.mpr c7
 have a6 := bne_iff_ne.mpr c7
 obtain rfl := zm H
 go_enter Tryd.func108, Tryd.ntmps108
 go_wp2_with (first | ((with_reducible refine zq 128 ?_); refine zg (some 4) Tryd.func128 #[.int .u8 a0] ?_; (with_reducible refine (spec_l1Small.calls a0 false _ A2.out).mono ?_); rintro e w' ⟨rfl, ⟨nd, rfl⟩⟩; refine ⟨_, rfl, ?_⟩) | (go_at_call 83; (with_reducible refine (spec_l1Digit.calls a0 false _ A4.out).mono ?_); rintro e w' ⟨rfl, ⟨nd, rfl⟩⟩))
 go_ret
 exact ⟨by first | rfl | (simp; done) | (simp [*]; done) | (simp; rw [Bool.eq_iff_iff]; simp; done), by repeat (first | exact Drawn0.refl _ | apply Drawn0.step)⟩
/-! ### spec_l5Name: function 76 -/
def spec_l5Name.l0 : Nat → ByteArray → Int → Option (Bool)
 | 0, _, _ => none
 | k + 1, x0, x3 => if x3 < (x0.size : Int) then (if 0 ≤ x3 then ((spec_l5Letter.f (bt x0 x3)).bind fun a0 => (if a0 = true then (spec_l5Name.l0 k x0 (wrap64 (x3 + 1))) else (some false))) else (none)) else ((spec_l1In.f (x0.size : Int) 1 12).bind fun a1 => (if a1 = true then (if x0.toList = ([46] : List UInt8) then (some false) else (some (x0.toList != ([46, 46] : List UInt8)))) else (some false)))
def spec_l5Name.f (k : Nat) (a0 : ByteArray) : Option (Bool) := spec_l5Name.l0 k a0 0
theorem spec_l5Name.calls (k : Nat) (a0 : ByteArray) (r : Bool) (w : World) (h : spec_l5Name.f k a0 = some r) :
  Calls Tryd.prog 76 #[.string a0] w fun e w' => e = .returned (.bool r) ∧ Drawn0 w w' := by
 unfold spec_l5Name.f at h
 have H := h
 clear h
 have H' := zA H
 clear H
 go_enter Tryd.func76, Tryd.ntmps76
 go_wp2
 go_loopg [3] k (fun kq v3 w' => ∃ (a1 : Int), v3 = .int .i64 a1 ∧ Aside0 (spec_l5Name.l0 kq a0 a1 = some r) ∧ Aside0 (kq ≤ k) ∧ Drawn0 w w')
 case atStart => exact ⟨(0), zS, H', ⟨Nat.le_refl _⟩, by repeat (first | exact Drawn0.refl _ | apply Drawn0.step)⟩
 case round =>
  clear H'; obtain ⟨a1, rfl, HA, a2, ⟨m1, rfl⟩⟩ := hrel
  cases gk with
  | zero => exact absurd HA.out (by simp [spec_l5Name.l0])
  | succ k1 =>
   have H := HA.out; clear HA; simp only [spec_l5Name.l0] at H; replace H := zI0 H
   rcases H with ⟨a5, H⟩ | ⟨a5, H⟩
   ·replace H := zD0 H; obtain ⟨a9, H⟩ := H; replace H := Option.bind_eq_some_iff.mp H; obtain ⟨b0, a3, H⟩ := H
    try dsimp only at H
    have A5 := zA a3; clear a3; replace H := zB0 H
    rcases H with ⟨rfl, H⟩ | ⟨rfl, H⟩
    ·have H' := zA H; clear H; have p4 : 0 ≤ (a1 : Int) := zD; have q4 : a1 < (a0.size : Int) := zD; have a6 := bt_at a0 a1; replace p4 := eq_true p4; replace q4 := eq_true q4
     go_wp2_with (first | ((with_reducible refine zq 108 ?_); refine zg (some 13) Tryd.func108 #[.int .u8 (bt a0 a1)] ?_; (with_reducible refine (spec_l5Letter.calls (bt a0 a1) true _ A5.out).mono ?_); rintro e w' ⟨rfl, ⟨nd, rfl⟩⟩; refine ⟨_, rfl, ?_⟩))
     go_roundg k1
     case measure => have := a2.out; omega
     case rel => exact ⟨(wrap64 (a1 + 1)), zS, H', ⟨by have := a2.out; omega⟩, by repeat (first | exact Drawn0.refl _ | apply Drawn0.step)⟩
    obtain rfl := zm H; have p4 : 0 ≤ (a1 : Int) := zD; have q4 : a1 < (a0.size : Int) := zD; have a6 := bt_at a0 a1; replace p4 := eq_true p4; replace q4 := eq_true q4
    go_wp2_with (first | ((with_reducible refine zq 108 ?_); refine zg (some 13) Tryd.func108 #[.int .u8 (bt a0 a1)] ?_; (with_reducible refine (spec_l5Letter.calls (bt a0 a1) false _ A5.out).mono ?_); rintro e w' ⟨rfl, ⟨nd, rfl⟩⟩; refine ⟨_, rfl, ?_⟩))
    go_ret
    exact ⟨by first | rfl | (simp; done) | (simp [*]; done) | (simp; rw [Bool.eq_iff_iff]; simp; done), by repeat (first | exact Drawn0.refl _ | apply Drawn0.step)⟩
   replace H := Option.bind_eq_some_iff.mp H; obtain ⟨b1, a4, H⟩ := H
   try dsimp only at H
   have A7 := zA a4; clear a4; replace H := zB0 H
   rcases H with ⟨rfl, H⟩ | ⟨rfl, H⟩
   ·replace H := zI1 H
    rcases H with ⟨c9, H⟩ | ⟨c9, H⟩
    ·have a7 := beq_iff_eq.mpr c9; have a8 := bne_eq_false_iff_eq.mpr c9; clear c9; obtain rfl := zm H
     go_wp2_with (first | ((with_reducible refine zq 84 ?_); refine zg (some 17) Tryd.func84 #[.int .i64 (a0.size : Int), .int .i64 1, .int .i64 12] ?_; (with_reducible refine (spec_l1In.calls (a0.size : Int) 1 12 true _ A7.out).mono ?_); rintro e w' ⟨rfl, ⟨nd, rfl⟩⟩; refine ⟨_, rfl, ?_⟩))
     go_ret
     exact ⟨by first | rfl | (simp; done) | (simp [*]; done) | (simp; rw [Bool.eq_iff_iff]; simp; done), by repeat (first | exact Drawn0.refl _ | apply Drawn0.step)⟩
    have a7 := beq_eq_false_iff_ne.mpr c9; have a8 := bne_iff_ne.mpr c9; obtain rfl := zm H
    go_wp2_with (first | ((with_reducible refine zq 84 ?_); refine zg (some 17) Tryd.func84 #[.int .i64 (a0.size : Int), .int .i64 1, .int .i64 12] ?_; (with_reducible refine (spec_l1In.calls (a0.size : Int) 1 12 true _ A7.out).mono ?_); rintro e w' ⟨rfl, ⟨nd, rfl⟩⟩; refine ⟨_, rfl, ?_⟩))
    go_ret
    exact ⟨by first | rfl | (simp; done) | (simp [*]; done) | (simp; rw [Bool.eq_iff_iff]; simp; done), by repeat (first | exact Drawn0.refl _ | apply Drawn0.step)⟩
   obtain rfl := zm H
   go_wp2_with (first | ((with_reducible refine zq 84 ?_); refine zg (some 17) Tryd.func84 #[.int .i64 (a0.size : Int), .int .i64 1, .int .i64 12] ?_; (with_reducible refine (spec_l1In.calls (a0.size : Int) 1 12 false _ A7.out).mono ?_); rintro e w' ⟨rfl, ⟨nd, rfl⟩⟩; refine ⟨_, rfl, ?_⟩))
   go_ret
   exact ⟨by first | rfl | (simp; done) | (simp [*]; done) | (simp; rw [Bool.eq_iff_iff]; simp; done), by repeat (first | exact Drawn0.refl _ | apply Drawn0.step)⟩
/-! ### spec_PathOk: function 29 -/
def spec_PathOk.l0 : Nat → List ByteArray → Int → Option (Bool)
 | 0, _, _ => none
 | k + 1, x3, x4 => if x4 < (x3.length : Int) then (if 0 ≤ x4 then ((spec_l5Name.f k (rdOf ByteArray.empty x3 x4)).bind fun a0 => (if a0 = true then (spec_PathOk.l0 k x3 (wrap64 (x4 + 1))) else (some false))) else (none)) else (some (decide ((x3.length : Int) ≤ 4)))
def spec_PathOk.f (k : Nat) (a0 : ByteArray) : Option (Bool) := (spec_Split.f k a0 47).bind fun a1 => (spec_PathOk.l0 k a1 0)
theorem spec_PathOk.calls (k : Nat) (a0 : ByteArray) (r : Bool) (w : World) (h : spec_PathOk.f k a0 = some r) :
  Calls Tryd.prog 29 #[.string a0] w fun e w' => e = .returned (.bool r) ∧ Below w.heap.size w w' := by
 have HB := zA (Below.refl w.heap.size w)
 unfold spec_PathOk.f at h
 have H := h
 clear h
 replace H := Option.bind_eq_some_iff.mp H
 obtain ⟨a2, a7, H⟩ := H
 try dsimp only at H
 have A2 := zA a7
 clear a7
 have H' := zA H
 clear H
 go_enter Tryd.func29, Tryd.ntmps29
 go_wp2_with (first | ((with_reducible refine zq 75 ?_); refine zg (some 6) Tryd.func75 #[.string a0, .int .u8 47] ?_; (with_reducible refine (spec_Split.calls k a0 47 a2 _ A2.out).mono ?_); rintro e w3 ⟨b1, rfl, a8, hb⟩; refine ⟨_, rfl, ?_⟩; have b2 := zA (Kd.R_lower a8 (below_size (zB))); replace HB := zA (below_step (zB) hb); (try clear hb a8)))
 go_loopg [4] k (fun kq v4 w' => ∃ (a1 : Int), v4 = .int .i64 a1 ∧ Aside0 (spec_PathOk.l0 kq a2 a1 = some r) ∧ Aside0 (kq ≤ k) ∧ Aside0 (Kd.R Kd.string 9 w' w.heap.size (fun _ => True) b1 a2) ∧ Aside0 (Below w.heap.size w w'))
 case atStart => exact ⟨(0), zS, H', ⟨Nat.le_refl _⟩, ⟨zR b2.out⟩, ⟨zB⟩⟩
 case round =>
  clear H'
  try clear c2
  try clear p2
  obtain ⟨a1, rfl, HA, a9, a5, HB⟩ := hrel
  cases gk with
  | zero => exact absurd HA.out (by simp [spec_PathOk.l0])
  | succ k1 =>
   have H := HA.out; clear HA; simp only [spec_PathOk.l0] at H; replace H := zI0 H
   rcases H with ⟨b3, H⟩ | ⟨b3, H⟩
   ·replace H := zD0 H; obtain ⟨b9, H⟩ := H; replace H := Option.bind_eq_some_iff.mp H; obtain ⟨c0, b0, H⟩ := H
    try dsimp only at H
    have A6 := zA b0; clear b0; replace H := zB0 H
    rcases H with ⟨rfl, H⟩ | ⟨rfl, H⟩
    ·have H' := zA H; clear H; obtain ⟨c1, c3, b4⟩ := Kd.R_slice a5.out; subst b4; have a3 : 0 ≤ (a1 : Int) := zD; have a4 : a1 < (a2.length : Int) := zD; obtain ⟨b5, a6, b6⟩ := Kd.at_string (Kd.R_reads' a5.out).2.2 a1 a3 a4; cases a6; replace a3 := eq_true a3; replace a4 := eq_true a4
     go_wp2_with (first | ((with_reducible refine zq 76 ?_); refine zg (some 17) Tryd.func76 #[.string (rdOf ByteArray.empty a2 a1)] ?_; (with_reducible refine (spec_l5Name.calls k1 (rdOf ByteArray.empty a2 a1) true _ A6.out).mono ?_); rintro e w' ⟨rfl, ⟨nd, rfl⟩⟩; refine ⟨_, rfl, ?_⟩))
     go_roundg k1
     case measure => have := a9.out; omega
     case rel => exact ⟨(wrap64 (a1 + 1)), zS, H', ⟨by have := a9.out; omega⟩, ⟨zR a5.out⟩, ⟨zB⟩⟩
    obtain rfl := zm H; obtain ⟨c4, c5, b7⟩ := Kd.R_slice a5.out; subst b7; have a3 : 0 ≤ (a1 : Int) := zD; have a4 : a1 < (a2.length : Int) := zD; obtain ⟨b5, a6, b6⟩ := Kd.at_string (Kd.R_reads' a5.out).2.2 a1 a3 a4; cases a6; replace a3 := eq_true a3; replace a4 := eq_true a4
    go_wp2_with (first | ((with_reducible refine zq 76 ?_); refine zg (some 17) Tryd.func76 #[.string (rdOf ByteArray.empty a2 a1)] ?_; (with_reducible refine (spec_l5Name.calls k1 (rdOf ByteArray.empty a2 a1) false _ A6.out).mono ?_); rintro e w' ⟨rfl, ⟨nd, rfl⟩⟩; refine ⟨_, rfl, ?_⟩))
    go_ret
    exact ⟨zE, zB⟩
   obtain rfl := zm H; obtain ⟨c6, c7, b8⟩ := Kd.R_slice a5.out; subst b8
   go_wp2
   go_ret
   exact ⟨zE, zB⟩
/-! ### spec_FilesOk: function 31 -/
def spec_FilesOk.l0 : Nat → List (S31) → Int → Option (Bool)
 | 0, _, _ => none
 | k + 1, x0, x3 => if x3 < (x0.length : Int) then (if 0 ≤ x3 then ((spec_PathOk.f k ((rd_T31 x0 x3).f0)).bind fun a0 => (if a0 = true then (if (((rd_T31 x0 x3).f1).size : Int) > 60 then (some false) else (if x3 > 0 then (if 0 ≤ (wrap64 (x3 - 1)) then (if (wrap64 (x3 - 1)) < (x0.length : Int) then (if ((Op.bytesLess (((rd_T31 x0 (wrap64 (x3 - 1))).f0).toList) (((rd_T31 x0 x3).f0).toList)) = true) then (spec_FilesOk.l0 k x0 (wrap64 (x3 + 1))) else (some false)) else (none)) else (none)) else (spec_FilesOk.l0 k x0 (wrap64 (x3 + 1))))) else (some false))) else (none)) else (some (decide ((x0.length : Int) ≤ 30)))
def spec_FilesOk.f (k : Nat) (l0 : List (S31)) : Option (Bool) := spec_FilesOk.l0 k l0 0
def spec_FilesOk.T4 : Bool × List (List Nat × List Nat) := (true, [([], []), ([], []), ([0, 1], [0, 1]), ([2], [2]), ([3], [3]), ([4], [4]), ([5], [5]), ([6, 5], [6]), ([7], [7]), ([7], [7]), ([8, 9, 7], [7, 8, 9]), ([10, 7], [7, 10]), ([11, 7], [7, 11]), ([12, 7], [7, 12]), ([13, 7], [7, 13]), ([7, 14], [7, 14]), ([15, 7], [15]), ([16], [16]), ([17, 16], [16, 17]), ([18, 16, 16], [16, 18]), ([19], [19]), ([19], [19]), ([21, 19], [19, 21]), ([20, 22, 19], [19, 20, 22]), ([23, 19], [19, 23]), ([24, 19], [19, 24]), ([19], [19]), ([19], [19]), ([26, 27, 19], [19, 26, 27]), ([28, 19], [19, 28]), ([29, 19], [19, 29]), ([25, 30, 19], [19, 25, 30]), ([19, 31, 16], [16, 19, 31]), ([16, 32], [16, 32])])
def spec_FilesOk.B4 : List Nat := [0, 0, 3, 7, 15, 31, 63, 127, 255, 255, 1023, 2047, 4095, 8191, 16383, 32767, 65535, 131071, 262143, 524287, 1048575, 1048575, 3145727, 8388607, 16777215, 33554431, 1048575, 1048575, 202375167, 470810623, 1007681535, 2147483647, 4294967295, 8589934591]
theorem spec_FilesOk.tab4 : rtab .any (opsOf Tryd.f31 4) = spec_FilesOk.T4 := by kernel_rfl
theorem spec_FilesOk.bits4 : waitsOk spec_FilesOk.T4.2 spec_FilesOk.B4 = true := by kernel_rfl
theorem spec_FilesOk.calls (k : Nat) (A0 : Option Addr) (c0 : Nat) (l0 : List (S31)) (r : Bool) (w : World) (d7 : Kd.C k31 w A0 l0.length l0) (d8 : l0.length ≤ c0) (h : spec_FilesOk.f k l0 = some r) :
  Calls Tryd.prog 31 #[.slice A0 l0.length c0] w fun e w' => e = .returned (.bool r) ∧ Below w.heap.size w w' := by
 have b1 := zA d7
 have e9 := zA d8
 clear d7 d8
 have HB := zA (Below.refl w.heap.size w)
 unfold spec_FilesOk.f at h
 have H := h
 clear h
 have H' := zA H
 clear H
 go_enter Tryd.func31, Tryd.ntmps31
 go_wp2
 go_loopg [3] k (fun kq v3 w' => ∃ (a0 : Int), v3 = .int .i64 a0 ∧ Aside0 (spec_FilesOk.l0 kq l0 a0 = some r) ∧ Aside0 (kq ≤ k) ∧ Aside0 (Below w.heap.size w w'))
 case atStart => exact ⟨(0), zS, H', ⟨Nat.le_refl _⟩, ⟨zB⟩⟩
 case round =>
  clear H'; obtain ⟨a0, rfl, HA, c7, HB⟩ := hrel
  cases gk with
  | zero => exact absurd HA.out (by simp [spec_FilesOk.l0])
  | succ k1 =>
   have H := HA.out; clear HA; simp only [spec_FilesOk.l0] at H; replace H := zI0 H
   rcases H with ⟨e0, H⟩ | ⟨e0, H⟩
   ·replace H := zD0 H; obtain ⟨f2, H⟩ := H; replace H := Option.bind_eq_some_iff.mp H; obtain ⟨f3, d9, H⟩ := H
    try dsimp only at H
    have A4 := zA d9; clear d9; replace H := zB0 H
    rcases H with ⟨rfl, H⟩ | ⟨rfl, H⟩
    ·replace H := zI1 H
     rcases H with ⟨c6, H⟩ | ⟨c6, H⟩
     ·have e1 : decide (60 < (((rd_T31 l0 a0).f1).size : Int)) = true := decide_eq_true c6; have e2 : decide (60 < ((rd_T31 l0 a0).f1).size) = true := decide_eq_true (by omega); clear c6; obtain rfl := zm H
      try go_wp2
      replace HB := zA (below_drew1 HB.out); have a5 : 0 ≤ (a0 : Int) := zD; have a6 : a0 < (l0.length : Int) := zD; obtain ⟨a1, b2, a2, a3⟩ := at_T31 b1.out a0 a5 a6; have c8 := a3; have d0 := a2; cases b2; replace a2 := zx HB a2; replace a3 := zx HB a3; replace a5 := eq_true a5; replace a6 := eq_true a6; have a9 : 0 ≤ (a0 : Int) := zD; have b0 : a0 < (l0.length : Int) := zD; obtain ⟨b7, b8, a7, a8⟩ := at_T31 b1.out a0 a9 b0; have d1 := a8; have d2 := a7; obtain rfl : a1 = b7 := (by injection b8); replace a7 := zx HB a7; replace a8 := zx HB a8; replace a9 := eq_true a9; replace b0 := eq_true b0
      refine start_ (n := 34) (S := fun w' => w'.cell? (a1.add ((a0).toNat * 2)) = some (.string ((rd_T31 l0 a0).f0)) ∧ w'.cell? ⟨(a1.add ((a0).toNat * 2)).block, (a1.add ((a0).toNat * 2)).off + 1, none⟩ = some (.string ((rd_T31 l0 a0).f1)) ∧ w'.cell? (a1.add ((a0).toNat * 2)) = some (.string ((rd_T31 l0 a0).f0)) ∧ w'.cell? ⟨(a1.add ((a0).toNat * 2)).block, (a1.add ((a0).toNat * 2)).off + 1, none⟩ = some (.string ((rd_T31 l0 a0).f1))) (ds := []) (Array.replicate 34 false) (by kernel_rfl) rfl rfl zO fun hHeld => ?_; refine with_tabW spec_FilesOk.tab4 spec_FilesOk.bits4 (fun HT_ HW_ => ?_)
      generalize wr.drew = w7 at HB a2 a3 a7 a8 hHeld ⊢; refine zp 0 10 ?_; refine zp 1 11 ?_; refine zp 2 12 ?_; refine zp 3 13 ?_; refine zt 4 14 ?_
      refine zo 5 (some 15) fun K hK => ?_
      refine goes_ Tryd.func29 (by kernel_rfl) rfl #[.string ((rd_T31 l0 a0).f0)] (by rfl) rfl rfl zM ?_
      with_reducible refine (spec_PathOk.calls k1 ((rd_T31 l0 a0).f0) true _ A4.out).mono ?_
      rintro e w8 ⟨rfl, hb⟩
      refine ⟨_, rfl, ?_⟩
      replace HB := zA (below_step (zB) hb)
      (try clear hb)
      refine hK.out _ _ zO fun hHeld => ?_
      clear hK K; refine zn ?_; refine zp 6 16 ?_; refine zp 7 17 ?_; refine zp 8 18 ?_; refine zp 9 19 ?_; refine zp 10 20 ?_; refine zp 11 21 ?_; refine zt 12 22 ?_; refine zp 13 23 ?_; refine zp 14 24 ?_; refine zp 15 25 ?_; refine zp 16 26 ?_; refine zu 17 27 ?_; refine zu 18 28 ?_; refine zu 19 29 ?_; refine zu 20 30 ?_; refine zu 21 31 ?_; refine zu 22 32 ?_; refine zu 23 33 ?_; refine zu 24 34 ?_; refine zu 25 35 ?_; refine zu 26 36 ?_; refine zu 27 37 ?_; refine zu 28 38 ?_; refine zu 29 39 ?_; refine zu 30 40 ?_; refine zu 31 41 ?_; refine zu 32 42 ?_; refine zp 33 43 ?_
      refine done_ (done_of HT_.out (by kernel_rfl)) ?_
      try go_wp2
      go_ret
      exact ⟨zE, zB⟩
     have e1 : decide (60 < (((rd_T31 l0 a0).f1).size : Int)) = false := decide_eq_false c6; have e2 : decide (60 < ((rd_T31 l0 a0).f1).size) = false := decide_eq_false (by omega); clear c6; replace H := zI1 H
     rcases H with ⟨c9, H⟩ | ⟨c9, H⟩
     ·have e3 : decide (0 < a0) = true := decide_eq_true c9; clear c9; obtain ⟨a4, c4⟩ : ∃ j_ : Int, (wrap64 (a0 - 1)) = j_ := ⟨_, rfl⟩
      replace H : (if 0 ≤ (a4) then (if (a4) < (l0.length : Int) then (if ((Op.bytesLess (((rd_T31 l0 (a4)).f0).toList) (((rd_T31 l0 a0).f0).toList)) = true) then (spec_FilesOk.l0 k1 l0 (wrap64 (a0 + 1))) else (some false)) else (none)) else (none)) = some r := by first | (rw [c4] at H; exact H) | (simp only [c4] at H ⊢; exact H)
      (try rw [c4] at A4)
      have hji10w : (IntKind.i64.wrap (a0 - 1)) = a4 := (i64_w _).trans c4; replace H := zD0 H; obtain ⟨f4, H⟩ := H; replace H := zD0 H; obtain ⟨f5, H⟩ := H; replace H := zI1 H
      rcases H with ⟨c5, H⟩ | ⟨c5, H⟩
      ·have e4 : (Op.bytesLess (((rd_T31 l0 (a4)).f0).toList) (((rd_T31 l0 a0).f0).toList)) = true := c5; clear c5; have H' := zA H; clear H
       try go_wp2
       replace HB := zA (below_drew1 HB.out); have a5 : 0 ≤ (a0 : Int) := zD; have a6 : a0 < (l0.length : Int) := zD; obtain ⟨a1, b2, a2, a3⟩ := at_T31 b1.out a0 a5 a6; have c8 := a3; have d0 := a2; cases b2; replace a2 := zx HB a2; replace a3 := zx HB a3; replace a5 := eq_true a5; replace a6 := eq_true a6; have a9 : 0 ≤ (a0 : Int) := zD; have b0 : a0 < (l0.length : Int) := zD; obtain ⟨b7, b8, a7, a8⟩ := at_T31 b1.out a0 a9 b0; have d1 := a8; have d2 := a7; obtain rfl : a1 = b7 := (by injection b8); replace a7 := zx HB a7; replace a8 := zx HB a8; replace a9 := eq_true a9; replace b0 := eq_true b0; have b9 : 0 ≤ ((a4) : Int) := zD; have c1 : (a4) < (l0.length : Int) := zD; obtain ⟨d3, d4, b3, b4⟩ := at_T31 b1.out (a4) b9 c1; have e5 := b4; have e6 := b3; obtain rfl : a1 = d3 := (by injection d4); replace b3 := zx HB b3; replace b4 := zx HB b4; replace b9 := eq_true b9; replace c1 := eq_true c1; have c2 : 0 ≤ (a0 : Int) := zD; have c3 : a0 < (l0.length : Int) := zD; obtain ⟨d5, d6, b5, b6⟩ := at_T31 b1.out a0 c2 c3; have e7 := b6; have e8 := b5; obtain rfl : a1 = d5 := (by injection d6); replace b5 := zx HB b5; replace b6 := zx HB b6; replace c2 := eq_true c2; replace c3 := eq_true c3
       refine start_ (n := 34) (S := fun w' => w'.cell? (a1.add ((a0).toNat * 2)) = some (.string ((rd_T31 l0 a0).f0)) ∧ w'.cell? ⟨(a1.add ((a0).toNat * 2)).block, (a1.add ((a0).toNat * 2)).off + 1, none⟩ = some (.string ((rd_T31 l0 a0).f1)) ∧ w'.cell? (a1.add ((a0).toNat * 2)) = some (.string ((rd_T31 l0 a0).f0)) ∧ w'.cell? ⟨(a1.add ((a0).toNat * 2)).block, (a1.add ((a0).toNat * 2)).off + 1, none⟩ = some (.string ((rd_T31 l0 a0).f1)) ∧ w'.cell? (a1.add (((a4)).toNat * 2)) = some (.string ((rd_T31 l0 (a4)).f0)) ∧ w'.cell? ⟨(a1.add (((a4)).toNat * 2)).block, (a1.add (((a4)).toNat * 2)).off + 1, none⟩ = some (.string ((rd_T31 l0 (a4)).f1)) ∧ w'.cell? (a1.add ((a0).toNat * 2)) = some (.string ((rd_T31 l0 a0).f0)) ∧ w'.cell? ⟨(a1.add ((a0).toNat * 2)).block, (a1.add ((a0).toNat * 2)).off + 1, none⟩ = some (.string ((rd_T31 l0 a0).f1))) (ds := []) (Array.replicate 34 false) (by kernel_rfl) rfl rfl zO fun hHeld => ?_; refine with_tabW spec_FilesOk.tab4 spec_FilesOk.bits4 (fun HT_ HW_ => ?_)
       generalize wr.drew = f6 at HB a2 a3 a7 a8 b3 b4 b5 b6 hHeld ⊢; refine zp 0 10 ?_; refine zp 1 11 ?_; refine zp 2 12 ?_; refine zp 3 13 ?_; refine zt 4 14 ?_
       refine zo 5 (some 15) fun K hK => ?_
       refine goes_ Tryd.func29 (by kernel_rfl) rfl #[.string ((rd_T31 l0 a0).f0)] (by rfl) rfl rfl zM ?_
       with_reducible refine (spec_PathOk.calls k1 ((rd_T31 l0 a0).f0) true _ A4.out).mono ?_
       rintro e f7 ⟨rfl, hb⟩
       refine ⟨_, rfl, ?_⟩
       replace HB := zA (below_step (zB) hb)
       (try clear hb)
       refine hK.out _ _ zO fun hHeld => ?_
       clear hK K; refine zn ?_; refine zp 6 16 ?_; refine zp 7 17 ?_; refine zp 8 18 ?_; refine zp 9 19 ?_; refine zp 10 20 ?_; refine zp 11 21 ?_; refine zt 12 22 ?_; refine zp 13 23 ?_; refine zp 14 24 ?_; refine zp 15 25 ?_; refine zp 16 26 ?_; refine zp 17 27 ?_; refine zp 18 28 ?_; refine zp 19 29 ?_; refine zp 20 30 ?_; refine zp 21 31 ?_; refine zp 22 32 ?_; refine zp 23 33 ?_; refine zp 24 34 ?_; refine zp 26 36 ?_; refine zp 27 37 ?_; refine zp 28 38 ?_; refine zp 29 39 ?_; refine zt 25 35 ?_; refine zt 30 40 ?_; refine zp 31 41 ?_; refine zp 32 42 ?_; refine zp 33 43 ?_
       refine done_ (done_of HT_.out (by kernel_rfl)) ?_
       try go_wp2
       go_roundg k1
       case measure => have := c7.out; omega
       case rel => exact ⟨(wrap64 (a0 + 1)), zS, H', ⟨by have := c7.out; omega⟩, ⟨zB⟩⟩
      have e4 : (Op.bytesLess (((rd_T31 l0 (a4)).f0).toList) (((rd_T31 l0 a0).f0).toList)) = false := by simpa using c5
      clear c5; obtain rfl := zm H
      try go_wp2
      replace HB := zA (below_drew1 HB.out); have a5 : 0 ≤ (a0 : Int) := zD; have a6 : a0 < (l0.length : Int) := zD; obtain ⟨a1, b2, a2, a3⟩ := at_T31 b1.out a0 a5 a6; have c8 := a3; have d0 := a2; cases b2; replace a2 := zx HB a2; replace a3 := zx HB a3; replace a5 := eq_true a5; replace a6 := eq_true a6; have a9 : 0 ≤ (a0 : Int) := zD; have b0 : a0 < (l0.length : Int) := zD; obtain ⟨b7, b8, a7, a8⟩ := at_T31 b1.out a0 a9 b0; have d1 := a8; have d2 := a7; obtain rfl : a1 = b7 := (by injection b8); replace a7 := zx HB a7; replace a8 := zx HB a8; replace a9 := eq_true a9; replace b0 := eq_true b0; have b9 : 0 ≤ ((a4) : Int) := zD; have c1 : (a4) < (l0.length : Int) := zD; obtain ⟨d3, d4, b3, b4⟩ := at_T31 b1.out (a4) b9 c1; have e5 := b4; have e6 := b3; obtain rfl : a1 = d3 := (by injection d4); replace b3 := zx HB b3; replace b4 := zx HB b4; replace b9 := eq_true b9; replace c1 := eq_true c1; have c2 : 0 ≤ (a0 : Int) := zD; have c3 : a0 < (l0.length : Int) := zD; obtain ⟨d5, d6, b5, b6⟩ := at_T31 b1.out a0 c2 c3; have e7 := b6; have e8 := b5; obtain rfl : a1 = d5 := (by injection d6); replace b5 := zx HB b5; replace b6 := zx HB b6; replace c2 := eq_true c2; replace c3 := eq_true c3
      refine start_ (n := 34) (S := fun w' => w'.cell? (a1.add ((a0).toNat * 2)) = some (.string ((rd_T31 l0 a0).f0)) ∧ w'.cell? ⟨(a1.add ((a0).toNat * 2)).block, (a1.add ((a0).toNat * 2)).off + 1, none⟩ = some (.string ((rd_T31 l0 a0).f1)) ∧ w'.cell? (a1.add ((a0).toNat * 2)) = some (.string ((rd_T31 l0 a0).f0)) ∧ w'.cell? ⟨(a1.add ((a0).toNat * 2)).block, (a1.add ((a0).toNat * 2)).off + 1, none⟩ = some (.string ((rd_T31 l0 a0).f1)) ∧ w'.cell? (a1.add (((a4)).toNat * 2)) = some (.string ((rd_T31 l0 (a4)).f0)) ∧ w'.cell? ⟨(a1.add (((a4)).toNat * 2)).block, (a1.add (((a4)).toNat * 2)).off + 1, none⟩ = some (.string ((rd_T31 l0 (a4)).f1)) ∧ w'.cell? (a1.add ((a0).toNat * 2)) = some (.string ((rd_T31 l0 a0).f0)) ∧ w'.cell? ⟨(a1.add ((a0).toNat * 2)).block, (a1.add ((a0).toNat * 2)).off + 1, none⟩ = some (.string ((rd_T31 l0 a0).f1))) (ds := []) (Array.replicate 34 false) (by kernel_rfl) rfl rfl zO fun hHeld => ?_; refine with_tabW spec_FilesOk.tab4 spec_FilesOk.bits4 (fun HT_ HW_ => ?_)
      generalize wr.drew = f8 at HB a2 a3 a7 a8 b3 b4 b5 b6 hHeld ⊢; refine zp 0 10 ?_; refine zp 1 11 ?_; refine zp 2 12 ?_; refine zp 3 13 ?_; refine zt 4 14 ?_
      refine zo 5 (some 15) fun K hK => ?_
      refine goes_ Tryd.func29 (by kernel_rfl) rfl #[.string ((rd_T31 l0 a0).f0)] (by rfl) rfl rfl zM ?_
      with_reducible refine (spec_PathOk.calls k1 ((rd_T31 l0 a0).f0) true _ A4.out).mono ?_
      rintro e f9 ⟨rfl, hb⟩
      refine ⟨_, rfl, ?_⟩
      replace HB := zA (below_step (zB) hb)
      (try clear hb)
      refine hK.out _ _ zO fun hHeld => ?_
      clear hK K; refine zn ?_; refine zp 6 16 ?_; refine zp 7 17 ?_; refine zp 8 18 ?_; refine zp 9 19 ?_; refine zp 10 20 ?_; refine zp 11 21 ?_; refine zt 12 22 ?_; refine zp 13 23 ?_; refine zp 14 24 ?_; refine zp 15 25 ?_; refine zp 16 26 ?_; refine zp 17 27 ?_; refine zp 18 28 ?_; refine zp 19 29 ?_; refine zp 20 30 ?_; refine zp 21 31 ?_; refine zp 22 32 ?_; refine zp 23 33 ?_; refine zp 24 34 ?_; refine zp 26 36 ?_; refine zp 27 37 ?_; refine zp 28 38 ?_; refine zp 29 39 ?_; refine zt 25 35 ?_; refine zt 30 40 ?_; refine zp 31 41 ?_; refine zp 32 42 ?_; refine zp 33 43 ?_
      refine done_ (done_of HT_.out (by kernel_rfl)) ?_
      try go_wp2
      go_ret
      exact ⟨by first | rfl | (simp [errW_none, errW_some] <;> rfl) | (simp only [← c4]; first | rfl | (simp [errW_none, errW_some] <;> rfl)) | (simp [*, errW_none, errW_some] <;> rfl), zB⟩
     have e3 : decide (0 < a0) = false := decide_eq_false c9; clear c9; have H' := zA H; clear H
     try go_wp2
     replace HB := zA (below_drew1 HB.out); have a5 : 0 ≤ (a0 : Int) := zD; have a6 : a0 < (l0.length : Int) := zD; obtain ⟨a1, b2, a2, a3⟩ := at_T31 b1.out a0 a5 a6; have c8 := a3; have d0 := a2; cases b2; replace a2 := zx HB a2; replace a3 := zx HB a3; replace a5 := eq_true a5; replace a6 := eq_true a6; have a9 : 0 ≤ (a0 : Int) := zD; have b0 : a0 < (l0.length : Int) := zD; obtain ⟨b7, b8, a7, a8⟩ := at_T31 b1.out a0 a9 b0; have d1 := a8; have d2 := a7; obtain rfl : a1 = b7 := (by injection b8); replace a7 := zx HB a7; replace a8 := zx HB a8; replace a9 := eq_true a9; replace b0 := eq_true b0
     refine start_ (n := 34) (S := fun w' => w'.cell? (a1.add ((a0).toNat * 2)) = some (.string ((rd_T31 l0 a0).f0)) ∧ w'.cell? ⟨(a1.add ((a0).toNat * 2)).block, (a1.add ((a0).toNat * 2)).off + 1, none⟩ = some (.string ((rd_T31 l0 a0).f1)) ∧ w'.cell? (a1.add ((a0).toNat * 2)) = some (.string ((rd_T31 l0 a0).f0)) ∧ w'.cell? ⟨(a1.add ((a0).toNat * 2)).block, (a1.add ((a0).toNat * 2)).off + 1, none⟩ = some (.string ((rd_T31 l0 a0).f1))) (ds := []) (Array.replicate 34 false) (by kernel_rfl) rfl rfl zO fun hHeld => ?_; refine with_tabW spec_FilesOk.tab4 spec_FilesOk.bits4 (fun HT_ HW_ => ?_)
     generalize wr.drew = g0 at HB a2 a3 a7 a8 hHeld ⊢; refine zp 0 10 ?_; refine zp 1 11 ?_; refine zp 2 12 ?_; refine zp 3 13 ?_; refine zt 4 14 ?_
     refine zo 5 (some 15) fun K hK => ?_
     refine goes_ Tryd.func29 (by kernel_rfl) rfl #[.string ((rd_T31 l0 a0).f0)] (by rfl) rfl rfl zM ?_
     with_reducible refine (spec_PathOk.calls k1 ((rd_T31 l0 a0).f0) true _ A4.out).mono ?_
     rintro e g1 ⟨rfl, hb⟩
     refine ⟨_, rfl, ?_⟩
     replace HB := zA (below_step (zB) hb)
     (try clear hb)
     refine hK.out _ _ zO fun hHeld => ?_
     clear hK K; refine zn ?_; refine zp 6 16 ?_; refine zp 7 17 ?_; refine zp 8 18 ?_; refine zp 9 19 ?_; refine zp 10 20 ?_; refine zp 11 21 ?_; refine zt 12 22 ?_; refine zp 13 23 ?_; refine zp 14 24 ?_; refine zp 15 25 ?_; refine zp 16 26 ?_; refine zp 17 27 ?_; refine zp 18 28 ?_; refine zp 19 29 ?_; refine zu 20 30 ?_; refine zu 21 31 ?_; refine zu 22 32 ?_; refine zu 23 33 ?_; refine zu 24 34 ?_; refine zu 25 35 ?_; refine zu 26 36 ?_; refine zu 27 37 ?_; refine zu 28 38 ?_; refine zu 29 39 ?_; refine zu 30 40 ?_; refine zu 31 41 ?_; refine zp 32 42 ?_; refine zp 33 43 ?_
     refine done_ (done_of HT_.out (by kernel_rfl)) ?_
     try go_wp2
     go_roundg k1
     case measure => have := c7.out; omega
     case rel => exact ⟨(wrap64 (a0 + 1)), zS, H', ⟨by have := c7.out; omega⟩, ⟨zB⟩⟩
    obtain rfl := zm H
    try go_wp2
    replace HB := zA (below_drew1 HB.out); have a5 : 0 ≤ (a0 : Int) := zD; have a6 : a0 < (l0.length : Int) := zD; obtain ⟨a1, b2, a2, a3⟩ := at_T31 b1.out a0 a5 a6; have c8 := a3; have d0 := a2; cases b2; replace a2 := zx HB a2; replace a3 := zx HB a3; replace a5 := eq_true a5; replace a6 := eq_true a6
    refine start_ (n := 34) (S := fun w' => w'.cell? (a1.add ((a0).toNat * 2)) = some (.string ((rd_T31 l0 a0).f0)) ∧ w'.cell? ⟨(a1.add ((a0).toNat * 2)).block, (a1.add ((a0).toNat * 2)).off + 1, none⟩ = some (.string ((rd_T31 l0 a0).f1))) (ds := []) (Array.replicate 34 false) (by kernel_rfl) rfl rfl zO fun hHeld => ?_; refine with_tabW spec_FilesOk.tab4 spec_FilesOk.bits4 (fun HT_ HW_ => ?_)
    generalize wr.drew = g2 at HB a2 a3 hHeld ⊢; refine zp 0 10 ?_; refine zp 1 11 ?_; refine zp 2 12 ?_; refine zp 3 13 ?_; refine zt 4 14 ?_
    refine zo 5 (some 15) fun K hK => ?_
    refine goes_ Tryd.func29 (by kernel_rfl) rfl #[.string ((rd_T31 l0 a0).f0)] (by rfl) rfl rfl zM ?_
    with_reducible refine (spec_PathOk.calls k1 ((rd_T31 l0 a0).f0) false _ A4.out).mono ?_
    rintro e g3 ⟨rfl, hb⟩
    refine ⟨_, rfl, ?_⟩
    replace HB := zA (below_step (zB) hb)
    (try clear hb)
    refine hK.out _ _ zO fun hHeld => ?_
    clear hK K; refine zn ?_; refine zp 6 16 ?_; refine zp 7 17 ?_; refine zu 8 18 ?_; refine zu 9 19 ?_; refine zu 10 20 ?_; refine zu 11 21 ?_; refine zu 12 22 ?_; refine zu 13 23 ?_; refine zu 14 24 ?_; refine zp 15 25 ?_; refine zp 16 26 ?_; refine zu 17 27 ?_; refine zu 18 28 ?_; refine zu 19 29 ?_; refine zu 20 30 ?_; refine zu 21 31 ?_; refine zu 22 32 ?_; refine zu 23 33 ?_; refine zu 24 34 ?_; refine zu 25 35 ?_; refine zu 26 36 ?_; refine zu 27 37 ?_; refine zu 28 38 ?_; refine zu 29 39 ?_; refine zu 30 40 ?_; refine zu 31 41 ?_; refine zu 32 42 ?_; refine zp 33 43 ?_
    refine done_ (done_of HT_.out (by kernel_rfl)) ?_
    try go_wp2
    go_ret
    exact ⟨zE, zB⟩
   obtain rfl := zm H
   go_wp2
   go_ret
   exact ⟨zE, zB⟩
end Go.Proofs.YtbaeljcnbkeipaaDoor.PGA
