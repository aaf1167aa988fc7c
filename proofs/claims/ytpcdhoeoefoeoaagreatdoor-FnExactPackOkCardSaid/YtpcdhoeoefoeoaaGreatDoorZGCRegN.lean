/- The same for rows whose elements hold rows. -/
import Derived.Test.YtpcdhoeoefoeoaaGreatDoorZGCSays
import Derived.Test.YtpcdhoeoefoeoaaGreatDoorZGCWLast
import Derived.Test.YtpcdhoeoefoeoaaGreatDoorZGCWN
import Derived.Test.YtpcdhoeoefoeoaaGreatDoorZGCWMore
set_option autoImplicit false
namespace Go.Proofs.YtpcdhoeoefoeoaaGreatDoor
open Go.RowKit Go.Proofs.YtpcdhoeoefoeoaaGreatDoorW.PrintWords Go.Proofs.YtpcdhoeoefoeoaaGreatDoorW.PrintLast Go.Proofs.YtpcdhoeoefoeoaaGreatDoorW.PrintMore
theorem zNt {α : Type} {d : Kd α} {e base : Nat} {w w' : World} {ok : Nat → Prop} {v : Value} {xs : List α} (x : Kd.N d e w base ok v xs) (h : Kd.N d e w base ok v xs → Kd.N d e w' base ok v xs := by intro x_; (with_reducible repeat (first | apply Kd.N_alloc | apply Kd.N_drewN | apply Kd.N_drew)); exact x_) : Kd.N d e w' base ok v xs := h x
theorem zn4 {α : Type} {d' : Kd α} {e' base g : Nat} {w : World} {ok : Nat → Prop} {u : Value} {xs : List α} {a b c d : Value} (x : Kd.N d' e' w base ok u xs) (n : ∀ k, ok k → k ≠ g) : Kd.N d' e' ((((w.setCell ⟨g, 0, none⟩ a).setCell ⟨g, 1, none⟩ b).setCell ⟨g, 2, none⟩ c).setCell ⟨g, 3, none⟩ d) base ok u xs := Kd.N_far (p := ⟨g, 3, none⟩) (Kd.N_far (p := ⟨g, 2, none⟩) (Kd.N_far (p := ⟨g, 1, none⟩) (Kd.N_far (p := ⟨g, 0, none⟩) (x) n a) n b) n c) n d
theorem zn5 {α : Type} {d' : Kd α} {e' base g : Nat} {w : World} {ok : Nat → Prop} {u : Value} {xs : List α} {a b c d e : Value} (x : Kd.N d' e' w base ok u xs) (n : ∀ k, ok k → k ≠ g) : Kd.N d' e' (((((w.setCell ⟨g, 0, none⟩ a).setCell ⟨g, 1, none⟩ b).setCell ⟨g, 2, none⟩ c).setCell ⟨g, 3, none⟩ d).setCell ⟨g, 4, none⟩ e) base ok u xs := Kd.N_far (p := ⟨g, 4, none⟩) (Kd.N_far (p := ⟨g, 3, none⟩) (Kd.N_far (p := ⟨g, 2, none⟩) (Kd.N_far (p := ⟨g, 1, none⟩) (Kd.N_far (p := ⟨g, 0, none⟩) (x) n a) n b) n c) n d) n e
theorem zn6 {α : Type} {d' : Kd α} {e' base g : Nat} {w : World} {ok : Nat → Prop} {u : Value} {xs : List α} {a b c d e f : Value} (x : Kd.N d' e' w base ok u xs) (n : ∀ k, ok k → k ≠ g) : Kd.N d' e' ((((((w.setCell ⟨g, 0, none⟩ a).setCell ⟨g, 1, none⟩ b).setCell ⟨g, 2, none⟩ c).setCell ⟨g, 3, none⟩ d).setCell ⟨g, 4, none⟩ e).setCell ⟨g, 5, none⟩ f) base ok u xs := Kd.N_far (p := ⟨g, 5, none⟩) (Kd.N_far (p := ⟨g, 4, none⟩) (Kd.N_far (p := ⟨g, 3, none⟩) (Kd.N_far (p := ⟨g, 2, none⟩) (Kd.N_far (p := ⟨g, 1, none⟩) (Kd.N_far (p := ⟨g, 0, none⟩) (x) n a) n b) n c) n d) n e) n f
end Go.Proofs.YtpcdhoeoefoeoaaGreatDoor
