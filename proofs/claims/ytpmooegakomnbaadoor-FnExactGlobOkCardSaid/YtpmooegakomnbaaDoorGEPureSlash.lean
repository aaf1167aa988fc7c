/- The letters of names, and a path's pieces. -/
import Derived.Test.YtpmooegakomnbaaDoorGEPureChars
import Derived.Test.YtpmooegakomnbaaDoorGEPureSplit
import Derived.Test.YtpmooegakomnbaaDoorPGEx1
import Derived.Test.YtpmooegakomnbaaDoorPGEx2
set_option linter.unusedVariables false
set_option linter.unusedSimpArgs false
namespace Go.Proofs.YtpmooegakomnbaaDoor.Pure
open Go.RowKit Go.Proofs.YtpmooegakomnbaaDoor.PGE Go.Proofs.YtpmooegakomnbaaDoorW.PrintWords Go.Proofs.YtpmooegakomnbaaDoorW.PrintLast Go.Proofs.YtpmooegakomnbaaDoor.Aux

def pathC (x : Int) : Bool := smallB x || (digitB x || (decide (x = 46) || (decide (x = 45) || decide (x = 95))))
theorem letter_spec {x : Int} (h : 0 ≤ x ∧ x ≤ 255) : spec_l5Letter.f x = some (pathC x) := by
  unfold spec_l5Letter.f pathC
  simp only [small_spec h, digit_spec h, Option.bind_some]
  cases smallB x <;> cases digitB x <;> simp
  by_cases h1 : x = 46 <;> by_cases h2 : x = 45 <;> simp [h1, h2]
  rfl
theorem letter_impl (x : Int) : impl_isPathByte.f x = some (pathC x) := by
  unfold impl_isPathByte.f pathC
  simp only [small_impl, digit_impl, Option.bind_some]
  cases smallB x <;> cases digitB x <;> simp
  by_cases h1 : x = 46 <;> by_cases h2 : x = 45 <;> simp [h1, h2]
  rfl
def slash : ByteArray := ⟨#[47]⟩
theorem slash_pieces {s : ByteArray} (hs : s.size ≤ 16777216) : (piecesB s slash).length ≤ 9223372036854775807 ∧ ∀ x ∈ piecesB s slash, x.size ≤ 9223372036854775807 := by
  have h := pieces_length (s := s) (sep := slash) (Nat.le_refl _)
  exact ⟨by omega, fun x hx => by have := pieces_mem (sep := slash) (by simp [slash]) x hx; omega⟩
end Go.Proofs.YtpmooegakomnbaaDoor.Pure
