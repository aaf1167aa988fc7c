/- What the walks say over and over, said once. -/
import Derived.Test.YtbaeljcnbkeipaaDoorZGCWWords
import Derived.Test.YtbaeljcnbkeipaaDoorZGCWLast
set_option autoImplicit false
namespace Go.Proofs.YtbaeljcnbkeipaaDoor
open Go.RowKit Go.Proofs.YtbaeljcnbkeipaaDoorW.PrintWords Go.Proofs.YtbaeljcnbkeipaaDoorW.PrintLast
theorem zB {p : Prop} (h : p := by repeat (first | (with_reducible first | exact HB.out | apply below_alloc | apply pw_below_drewN | apply below_drew1) | exact HB.out)) : p := h
theorem zD {p : Prop} [Decidable p] (h : decide p = true := by first | (with_reducible assumption) | assumption) : p := of_decide_eq_true h
theorem zE {p : Prop} (h : p := by first | rfl | (simp [errW_none, errW_some] <;> rfl) | (simp [*, errW_none, errW_some] <;> rfl)) : p := h
theorem zS {p : Prop} (h : p := by first | rfl | (simp; done) | (simp [*]; done) | (simp; rw [Bool.eq_iff_iff]; simp; done)) : p := h
theorem zM {p : Prop} (h : p := by (try simp only [List.map_toArray, List.map_cons, List.map_nil]); first | done | rfl | (simp only [List.length_drop, List.length_take]; rfl)) : p := h
theorem zW {B : Nat} {a W W' : World} (x : Below B a W) (h : Below B a W → Below B a W' := by intro x_; repeat (first | (with_reducible first | exact x_ | apply below_alloc | apply pw_below_drewN | apply below_drew1 | refine below_set ?_ (Aside0.out (by assumption))) | exact x_)) : Below B a W' := h x
theorem zR {α : Type} {d : Kd α} {e base : Nat} {w w' : World} {ok : Nat → Prop} {v : Value} {xs : List α} (x : d.R e w base ok v xs) (h : d.R e w base ok v xs → d.R e w' base ok v xs := by intro x_; (with_reducible repeat (first | apply Kd.R_alloc | apply Kd.R_drewN | apply Kd.R_drew)); exact x_) : d.R e w' base ok v xs := h x
theorem zC {p q : Prop} (x : p) (h : p → q := by intro x_; repeat (first | exact x_ | (with_reducible refine Kd.C_alloc ?_ _) | (with_reducible refine Kd.C_drewN ?_ _) | (with_reducible refine Kd.C_drew ?_))) : q := h x
theorem zK {w w' : World} {g : Nat} {o : Obj} (x : w.heap[g]? = some o) (h : w.heap[g]? = some o → w'.heap[g]? = some o := by intro x_; (with_reducible repeat (first | refine blk_drewN ?_ _ | refine blk_drew ?_ | refine blk_alloc ?_ _ | refine blk_far ?_ (Aside0.out (by assumption)) _)); exact x_) : w'.heap[g]? = some o := h x
theorem zT {α : Type} : (∀ (l : List α) (i : Nat) (a : α), l.toArray.setIfInBounds i a = (l.set i a).toArray) ∧ (∀ (a b : α) (l : List α), (a :: l).set 0 b = b :: l) ∧ (∀ (a b : α) (n : Nat) (l : List α), (a :: l).set (n + 1) b = a :: l.set n b) := ⟨by simp, fun _ _ _ => rfl, fun _ _ _ _ => rfl⟩
theorem zA {p : Prop} (h : p) : Aside0 p := ⟨h⟩
theorem zh {w W W' w2 : World} (x : Aside0 (Below w.heap.size w W)) (hb : Below W'.heap.size W' w2) (h : Below w.heap.size w W → Below w.heap.size w W' := by intro x_; repeat (first | (with_reducible first | exact x_ | apply below_alloc | apply pw_below_drewN | apply below_drew1 | refine below_set ?_ (Aside0.out (by assumption))) | exact x_)) : Aside0 (Below w.heap.size w w2) := ⟨below_step (h x.out) hb⟩
theorem zb {w w' w1 : World} {g : Nat} {o : Obj} (x : Aside0 (w.heap[g]? = some o)) (hb : Below w'.heap.size w' w1) (h : w.heap[g]? = some o → w'.heap[g]? = some o := by intro x_; (with_reducible repeat (first | refine blk_drewN ?_ _ | refine blk_drew ?_ | refine blk_alloc ?_ _ | refine blk_far ?_ (Aside0.out (by assumption)) _)); exact x_) : Aside0 (w1.heap[g]? = some o) := ⟨blk_below (h x.out) hb⟩
theorem zr {α : Type} {d : Kd α} {e base : Nat} {w w' w1 : World} {ok : Nat → Prop} {v : Value} {xs : List α} (x : Aside0 (d.R e w base ok v xs)) (hb : Below w'.heap.size w' w1) (h : d.R e w base ok v xs → d.R e w' base ok v xs := by intro x_; (with_reducible repeat (first | apply Kd.R_alloc | apply Kd.R_drewN | apply Kd.R_drew)); exact x_) : Aside0 (d.R e w1 base ok v xs) := ⟨Kd.R_below (h x.out) hb⟩
theorem zF {w : World} {g : Nat} {t : TypeId} {cs : Array Value} (h : w.heap[g]? = some (.cells cs t (0, 0))) (i : Nat) : w.frozen? ⟨g, i, none⟩ = false := by simp [World.frozen?, h]
theorem zL {w : World} {g g' : Nat} {o : Obj} (hg : g' = w.heap.size) (h : w.heap[g]? = some o) : g ≠ g' := hg ▸ Nat.ne_of_lt (blk_lt h)
theorem zJ {w : World} {g g' : Nat} {o : Obj} (hg : g' = w.heap.size) (h : w.heap[g]? = some o) : g' ≠ g := hg ▸ Nat.ne_of_gt (blk_lt h)
theorem zY {α : Type} {y v : α} {p q : Prop} (hy : y = v) (H : p) (h : y = v → p → q := by intro hy_ H; first | (rw [hy_]; with_reducible exact H) | (have H2_ := (Option.bind_some _ _).symm.trans H; rw [hy_]; with_reducible exact H2_) | (have H2_ := (Option.bind_some _ _).symm.trans H; with_reducible exact H2_) | with_reducible exact H | (rw [hy_]; exact H) | exact H) : q := h hy H
theorem zI1 {α : Type} {c : Prop} [Decidable c] {x y z : α} (H : (if c then x else y) = z) : c ∧ x = z ∨ ¬ c ∧ y = z := by by_cases h : c <;> simp [h] at H ⊢ <;> exact H
theorem zI0 {α : Type} {c : Prop} [Decidable c] {x y z : α} (H : (if c then x else y) = z) : decide c = true ∧ x = z ∨ decide c = false ∧ y = z := by by_cases h : c <;> simp [h] at H ⊢ <;> exact H
theorem zC0 {α : Type} {c : Prop} [Decidable c] {x : Option α} {z : α} (H : (if c then x else none) = some z) : c ∧ x = some z := by by_cases h : c <;> simp [h] at H ⊢ <;> exact H
theorem zD0 {α : Type} {c : Prop} [Decidable c] {x : Option α} {z : α} (H : (if c then x else none) = some z) : decide c = true ∧ x = some z := by by_cases h : c <;> simp [h] at H ⊢ <;> exact H
theorem zB0 {α : Type} {t : Bool} {x y z : α} (H : (if t = true then x else y) = z) : t = true ∧ x = z ∨ t = false ∧ y = z := by cases t <;> simp at H ⊢ <;> exact H
theorem zh2 {w0 w w1 : World} (e : w1 = w) (x : Below w0.heap.size w0 w) : Below w0.heap.size w0 w1 := e ▸ x
theorem zx {w W : World} {p : Addr} {v : Value} (x : Aside0 (Below w.heap.size w W)) (h : w.cell? p = some v) : W.cell? p = some v := (x.out.cell (World.block_lt_of_cell? w _ h)).trans h
theorem zO {p : Prop} (h : p := by (repeat' apply And.intro) <;> first | assumption | exact zx HB (by assumption) | (refine (blk_cell (Aside0.out (by assumption)) _).trans ?_; rfl)) : p := h
theorem zm {α : Type} {a b : α} (H : some a = some b) : a = b := Option.some.inj H
theorem zU : (∀ {α : Type} (a b : α), (some a = some b) = (a = b)) ∧ (∀ {α β : Type} (a c : α) (b d : β), ((a, b) = (c, d)) = (a = c ∧ b = d)) := ⟨fun _ _ => Option.some.injEq _ _, fun _ _ _ _ => Prod.mk.injEq _ _ _ _⟩
theorem zi {w W W' : World} {g : Nat} (x : Aside0 (Below w.heap.size w W')) (hg : g = W.heap.size) (h : Below w.heap.size w W' → w.heap.size ≤ W.heap.size := by intro x_; exact below_size (zW x_)) : Aside0 (w.heap.size ≤ g) := ⟨hg ▸ h x.out⟩
section
variable {P : Program} {ops : Array Oper} {Q : Exit → Act → World → Prop} {rest : List Oper} {o : Oper} {a : Act} {W : World}
theorem zq (f : FuncId) {as : Array Operand} {ts : Array TypeId} (h : wpList P ops Q (o :: rest) a W) (_ho : o.op = .call { callee := .value (.func f), args := as, argTypes := ts } := by exact rfl) : wpList P ops Q (o :: rest) a W := h
theorem zd (N : Tmp) (h : wpList P ops Q (o :: rest) a W) (_hN : o.dst = some N := by exact rfl) : wpList P ops Q (o :: rest) a W := h
theorem ze (N : Tmp) (t : TypeId) (cs : Array Value) (h : ∀ g, g = W.heap.size → ∀ w1, w1.heap[g]? = some (.cells cs t (0, 0)) → Below W.heap.size W w1 → wpList P ops Q rest (a.put o.dst (.pointer (some ⟨g, 0, none⟩))) w1) (hd : o.dst = some N := by exact rfl) (hgd : o.guard = none := by exact rfl) (hrun : (execOp a.eval o).run P W = .ok (.value (.pointer (some ⟨W.heap.size, 0, none⟩))) (W.alloc (.cells cs t (0, 0))) := by first | (go_simp; done) | (go_simp; rfl)) : wpList P ops Q (o :: rest) a W := box_event hgd hd hrun h
theorem zg (N : Option Tmp) {f : FuncId} {fn : Func} (hf : P.funcs[f]? = some fn) (args : Array Value) {as : Array Operand} {ts : Array TypeId} (h : Calls P f args W fun e w' => ∃ v, e = .returned v ∧ wpList P ops Q rest (a.put N v) w') (hd : o.dst = N := by exact rfl) (hg : o.guard = none := by exact rfl) (hname : (fn.name == "runtime.NumGoroutine") = false := by kernel_rfl) (hb : fn.body.isSome = true := by exact rfl) (hop : o.op = .call { callee := .value (.func f), args := as, argTypes := ts } := by exact rfl) (hargs : as.map a.eval = args := by (try simp only [List.map_toArray, List.map_cons, List.map_nil]); first | done | rfl | (simp only [List.length_drop, List.length_take]; rfl)) : wpList P ops Q (o :: rest) a W := goesL_ N hd hg hf hname hb args hop hargs h
end
theorem zc0 {w : World} {g : Nat} {t : TypeId} {a0 : Value} {l_ : List Value} (h : w.heap[g]? = some (.cells (List.toArray (a0 :: l_)) t (0, 0))) : w.cell? ⟨g, 0, none⟩ = some a0 := (blk_cell h 0).trans rfl
theorem zc1 {w : World} {g : Nat} {t : TypeId} {a0 a1 : Value} {l_ : List Value} (h : w.heap[g]? = some (.cells (List.toArray (a0 :: a1 :: l_)) t (0, 0))) : w.cell? ⟨g, 1, none⟩ = some a1 := (blk_cell h 1).trans rfl
theorem ze2 {w : World} {g : Nat} {t : TypeId} {a0 a1 : Value} (h : w.heap[g]? = some (.cells (List.toArray [a0, a1]) t (0, 0))) : w.cell? ⟨g, 0, none⟩ = some a0 ∧ w.cell? ⟨g, 1, none⟩ = some a1 ∧ w.frozen? ⟨g, 0, none⟩ = false ∧ w.frozen? ⟨g, 1, none⟩ = false := ⟨zc0 h, zc1 h, zF h 0, zF h 1⟩
end Go.Proofs.YtbaeljcnbkeipaaDoor
