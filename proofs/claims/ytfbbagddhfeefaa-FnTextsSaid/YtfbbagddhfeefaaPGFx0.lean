/- The walks of the functions that these laws reach, and what each comes to: printed by this session's program. -/
import Derived.Test.YtfbbagddhfeefaaProg
import Derived.Below
import Derived.Deep.Draws
import Derived.Deep.AppendLies
import Derived.Maps.AppendAt
import Derived.OwnWalk
import Derived.Laws.BytesArg
import Derived.Laws.MakeOwn
import Derived.Laws.OwnMore
import Derived.Deep.OwnRows
import Derived.Tactics
import Derived.Lib.ConvBytes
import Derived.Laws.Slices
import Derived.WalkKit
import Derived.KernelRfl
import Derived.RowKit3
import Derived.Deep.LoopGhost
import Derived.Deep.QuietTactic
import Derived.BigQuiet
import Derived.WideLaws
import Derived.Deep.DeepCutAuto
import Derived.Deep.CutBlock
import Derived.Deep.RegionHeld3
import Derived.Laws.Rows
import Derived.Lib.AppendStr
import Derived.ArgAppend
import Derived.Laws.IdiomCopy
import Derived.OrdersHeld
import Derived.Laws.BitsLemmas
import Derived.RowKit
import Derived.WalkSpells
import Derived.Test.YtfbbagddhfeefaaMine
import Derived.Test.YtfbbagddhfeefaaWWords
import Derived.Test.YtfbbagddhfeefaaWLast
import Derived.Test.YtfbbagddhfeefaaWTab
import Derived.Test.YtfbbagddhfeefaaWFour
import Derived.Test.YtfbbagddhfeefaaWQPut
import Derived.Test.YtfbbagddhfeefaaWApart
import Derived.Test.YtfbbagddhfeefaaWArr
import Derived.Test.YtfbbagddhfeefaaWZeros
import Derived.Test.YtfbbagddhfeefaaWFoot
import Derived.Test.YtfbbagddhfeefaaWKept
import Derived.Test.YtfbbagddhfeefaaWShare
import Derived.Test.YtfbbagddhfeefaaWN
import Derived.Test.YtfbbagddhfeefaaWFootNe
import Derived.Test.YtfbbagddhfeefaaWAt
import Derived.Test.YtfbbagddhfeefaaWEqStruct
import Derived.Test.YtfbbagddhfeefaaWRepsOne
import Derived.Test.YtfbbagddhfeefaaWInv
import Derived.Test.YtfbbagddhfeefaaWInvWords
import Derived.Test.YtfbbagddhfeefaaWGuard
import Derived.Test.YtfbbagddhfeefaaWNEv
import Derived.Test.YtfbbagddhfeefaaWMore
namespace Go.Proofs.Ytfbbagddhfeefaa.PGF
open Go.RowKit Go.Proofs.YtfbbagddhfeefaaW.PrintWords Go.Proofs.YtfbbagddhfeefaaW.PrintLast Go.Proofs.YtfbbagddhfeefaaW.PrintMore
attribute [local go_sem high] Go.Proofs.Ytfbbagddhfeefaa.Mine.str_gtr Go.Proofs.Ytfbbagddhfeefaa.Mine.str_leq Go.Proofs.Ytfbbagddhfeefaa.Mine.str_geq
attribute [local go_sem] max2_int min2_int max_two min_two max_three min_three max_four min_four   -- for this text's walks alone
set_option linter.unusedVariables false
set_option linter.unusedSimpArgs false



def errW : Option Int → Value
  | none => .nilIface
  | some c => .iface 0 (.int .i64 c)
theorem errW_none : errW none = .nilIface := rfl
theorem errW_some (c : Int) : errW (some c) = .iface 0 (.int .i64 c) := rfl

theorem info3 : (Try.prog.info? 3).map (fun i => (i.zero, i.size, i.bytes)) = some (some (.int .i64 0), 1, 8) := by kernel_rfl
theorem info5 : (Try.prog.info? 5).map (fun i => (i.zero, i.size, i.bytes)) = some (some (.int .u8 0), 1, 1) := by kernel_rfl
theorem info9 : (Try.prog.info? 9).map (fun i => (i.zero, i.size, i.bytes)) = some (some (.string ⟨#[]⟩), 1, 16) := by kernel_rfl
-- the values' own types

end Go.Proofs.Ytfbbagddhfeefaa.PGF
