/- What PutText comes to, of the reference and of the program. -/
import Derived.Test.YtfbbagddhfeefaaAux
import Derived.Test.YtfbbagddhfeefaaPGFx1
set_option linter.unusedVariables false
set_option linter.unusedSimpArgs false
namespace Go.Proofs.Ytfbbagddhfeefaa.Pure
open Go.RowKit Go.Proofs.Ytfbbagddhfeefaa.PGF Go.Proofs.YtfbbagddhfeefaaW.PrintWords Go.Proofs.YtfbbagddhfeefaaW.PrintLast Go.Proofs.Ytfbbagddhfeefaa.Aux

def putB (l : List Int) (s : ByteArray) : List Int := if (s.size : Int) > 60000 then l else l ++ [((s.size : Int) / 256) % 256, ((s.size : Int)) % 256] ++ bytesOf s
theorem putB_length (l : List Int) (s : ByteArray) (h : s.size ≤ 1048576) : (putB l s).length ≤ l.length + 1048578 := by
  unfold putB
  split
  · omega
  · simp only [List.length_append, List.length_cons, List.length_nil, bytesOf_length]
    omega
theorem impl_put (l : List Int) (s : ByteArray) (hl : l.length ≤ 1048576) (hs : s.size ≤ 1048576) : impl_PutText.f l s = some (putB l s) := by
  unfold impl_PutText.f slices_Clone_byte_byte.f putB
  simp only [Option.bind_some, List.length_nil, List.nil_append, Nat.zero_add]
  rw [if_pos (by omega)]
  simp only [Option.bind_some]
  unfold impl_putText.f
  by_cases h : (s.size : Int) > 60000
  · simp only [h, if_true]
  · simp only [h, if_false]
    rw [if_pos (by omega)]
end Go.Proofs.Ytfbbagddhfeefaa.Pure
