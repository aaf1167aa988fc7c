/- Rules for the walks: '>', '<=', '>=' between strings, told by 'less' alone. -/
import Derived.Test.YtpcdhoeoefoeoaaWWords
import Derived.WalkLawsBesides
set_option linter.unusedVariables false
set_option linter.unusedSimpArgs false
namespace Go.Proofs.Ytpcdhoeoefoeoaa.Mine
open Go.RowKit

theorem less_turned : ∀ (x y : List UInt8), Op.bytesLess y x = !(Op.bytesLess x y || x == y)
  | [], [] => by simp [Op.bytesLess]
  | a :: x, [] => by simp [Op.bytesLess]
  | [], b :: y => by simp [Op.bytesLess]
  | a :: x, b :: y => by
    have ih := less_turned x y
    simp only [Op.bytesLess, ih]
    by_cases h1 : a < b
    · have h2 : ¬ b < a := fun h => absurd (UInt8.lt_trans h1 h) (UInt8.lt_irrefl a)
      have h3 : ¬ b = a := fun h => absurd (h ▸ h1) (UInt8.lt_irrefl _)
      simp [h1, h2, h3]
    · by_cases h3 : a = b
      · subst h3
        simp [UInt8.lt_irrefl]
      · have h2 : b < a := by
          rcases Nat.lt_trichotomy a.toNat b.toNat with h | h | h
          · exact absurd (UInt8.lt_iff_toNat_lt.2 h) h1
          · exact absurd (UInt8.toNat_inj.1 h) h3
          · exact UInt8.lt_iff_toNat_lt.2 h
        simp [h1, h2, h3]

theorem str_gtr (t : TypeId) (a b : ByteArray) : binOp .gtr t (.string a) (.string b) = pure (.bool (Op.bytesLess b.toList a.toList)) := by
  rw [less_turned]
  simp [binOp, Op.stringOp]
theorem str_leq (t : TypeId) (a b : ByteArray) : binOp .leq t (.string a) (.string b) = pure (.bool !(Op.bytesLess b.toList a.toList)) := by
  rw [less_turned]
  simp [binOp, Op.stringOp]
theorem str_geq (t : TypeId) (a b : ByteArray) : binOp .geq t (.string a) (.string b) = pure (.bool !(Op.bytesLess a.toList b.toList)) := by simp [binOp, Op.stringOp]
/-! A box of four cells, written to whole: what is told of the world ahead, told of the one behind. -/
section
open Go.Proofs.YtpcdhoeoefoeoaaW.PrintWords
variable {w0 w W : World} {g g' j0 j1 j2 j3 : Nat} {a b c d x0 x1 x2 x3 : Value} {t t' : TypeId} {cs : Array Value}
theorem far4 (x : Aside0 (w.heap[g']? = some (.cells cs t' (0, 0)))) (n : Aside0 (g' ≠ g)) (e : (((w.setCell ⟨g, j0, none⟩ a).setCell ⟨g, j1, none⟩ b).setCell ⟨g, j2, none⟩ c).setCell ⟨g, j3, none⟩ d = W) : Aside0 (W.heap[g']? = some (.cells cs t' (0, 0))) := by
  subst e
  exact ⟨blk_far (p := ⟨g, j3, none⟩) (blk_far (p := ⟨g, j2, none⟩) (blk_far (p := ⟨g, j1, none⟩) (blk_far (p := ⟨g, j0, none⟩) x.out n.out _) n.out _) n.out _) n.out _⟩
theorem put4 (x : Aside0 (w.heap[g]? = some (.cells #[x0, x1, x2, x3] t (0, 0)))) (e : (((w.setCell ⟨g, 0, none⟩ a).setCell ⟨g, 1, none⟩ b).setCell ⟨g, 2, none⟩ c).setCell ⟨g, 3, none⟩ d = W) : Aside0 (W.heap[g]? = some (.cells #[a, b, c, d] t (0, 0))) := by
  subst e
  exact ⟨blk_put (cs := #[a, b, c, x3]) (blk_put (cs := #[a, b, x2, x3]) (blk_put (cs := #[a, x1, x2, x3]) (blk_put (cs := #[x0, x1, x2, x3]) x.out 0 _ rfl) 1 _ rfl) 2 _ rfl) 3 _ rfl⟩
theorem row4 {α : Type} {d' : Kd α} {e' base : Nat} {ok : Nat → Prop} {v : Value} {xs : List α} (x : Aside0 (d'.R e' w base ok v xs)) (y : Aside0 (w.heap[g]? = some (.cells cs t (0, 0)))) (e : (((w.setCell ⟨g, j0, none⟩ a).setCell ⟨g, j1, none⟩ b).setCell ⟨g, j2, none⟩ c).setCell ⟨g, j3, none⟩ d = W) (ht : ∀ q, q ∈ e' :: d'.E → q ≠ t := by decide) : Aside0 (d'.R e' W base ok v xs) := by
  subst e
  exact ⟨Kd.R_mono (Kd.R_far (p := ⟨g, j3, none⟩) (Kd.R_far (p := ⟨g, j2, none⟩) (Kd.R_far (p := ⟨g, j1, none⟩) (Kd.R_far (p := ⟨g, j0, none⟩) (Kd.R_types x.out y.out ht) (fun _ hk => hk.2) a) (fun _ hk => hk.2) b) (fun _ hk => hk.2) c) (fun _ hk => hk.2) d) (fun _ hk => hk.1)⟩
theorem below4 (x : Aside0 (Below w0.heap.size w0 w)) (y : Aside0 (w0.heap.size ≤ g)) (e : (((w.setCell ⟨g, j0, none⟩ a).setCell ⟨g, j1, none⟩ b).setCell ⟨g, j2, none⟩ c).setCell ⟨g, j3, none⟩ d = W) : Aside0 (Below w0.heap.size w0 W) := by
  subst e
  exact ⟨below_set (below_set (below_set (below_set x.out y.out) y.out) y.out) y.out⟩
end
end Go.Proofs.Ytpcdhoeoefoeoaa.Mine
