/- The kinds of bytes: what the reference's and the program's tests of one byte come to. -/
import Derived.Test.YtfbbagddhfeefaaAux
import Derived.Test.YtfbbagddhfeefaaPGIx5
set_option linter.unusedVariables false
set_option linter.unusedSimpArgs false
namespace Go.Proofs.Ytfbbagddhfeefaa.Pure
open Go.RowKit Go.Proofs.Ytfbbagddhfeefaa.PGI Go.Proofs.YtfbbagddhfeefaaW.PrintWords Go.Proofs.YtfbbagddhfeefaaW.PrintLast Go.Proofs.Ytfbbagddhfeefaa.Aux

def inB (x a b : Int) : Bool := decide (a ≤ x) && decide (x ≤ b)
def smallB (x : Int) : Bool := inB x 97 122
def digitB (x : Int) : Bool := inB x 48 57
def upperB (x : Int) : Bool := inB x 65 90

theorem in_f (a b c : Int) : spec_l1In.f a b c = some (inB a b c) := by
  unfold spec_l1In.f inB
  by_cases h : b ≤ a <;> simp [h]
theorem inRange_f (a b c : Int) : impl_inRange.f a b c = some (inB a b c) := by
  unfold impl_inRange.f inB
  by_cases h : b ≤ a <;> simp [h]

end Go.Proofs.Ytfbbagddhfeefaa.Pure
