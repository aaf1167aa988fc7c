/- The walks of the functions that these laws reach, and what each comes to: printed by this session's program. -/
import Derived.Test.YtfbbagddhfeefaaZGLPGLx9a
import Derived.Test.YtfbbagddhfeefaaZGLPGLx9b
import Derived.Test.YtfbbagddhfeefaaZGLSays
namespace Go.Proofs.Ytfbbagddhfeefaa.PGL
open Go.RowKit Go.Proofs.YtfbbagddhfeefaaW.PrintWords Go.Proofs.YtfbbagddhfeefaaW.PrintLast Go.Proofs.YtfbbagddhfeefaaW.PrintMore
attribute [local go_sem high] Go.Proofs.Ytfbbagddhfeefaa.Mine.str_gtr Go.Proofs.Ytfbbagddhfeefaa.Mine.str_leq Go.Proofs.Ytfbbagddhfeefaa.Mine.str_geq
attribute [local go_sem] max2_int min2_int max_two min_two max_three min_three max_four min_four   -- for this text's walks alone
set_option linter.unusedVariables false
set_option maxHeartbeats 8000000
set_option maxRecDepth 100000
set_option linter.unusedSimpArgs false
/-! ### laws_FnVersBent: function 13 -/
def laws_FnVersBent.f (k : Nat) (l0 : List Int) : Option (Bool) := if k % 2 = 0 then laws_FnVersBentA.f (k / 2) l0 else laws_FnVersBentB.f (k / 2) l0
theorem laws_FnVersBent.calls (k : Nat) (A0 : Option Addr) (c0 : Nat) (l0 : List Int) (r : Bool) (w : World) (hr0 : Kd.C (Kd.int .u8) w A0 l0.length l0) (hc0 : l0.length ≤ c0) (h : laws_FnVersBent.f k l0 = some r) :
  Calls Try.prog 13 #[.slice A0 l0.length c0] w fun e w' => e = .returned (.bool r) ∧ Below w.heap.size w w' := by
 unfold laws_FnVersBent.f at h
 by_cases hp : k % 2 = 0
 ·rw [if_pos hp] at h
  exact laws_FnVersBentA.calls (k / 2) A0 c0 l0 r w hr0 hc0 h
 ·rw [if_neg hp] at h
  exact laws_FnVersBentB.calls (k / 2) A0 c0 l0 r w hr0 hc0 h
end Go.Proofs.Ytfbbagddhfeefaa.PGL
