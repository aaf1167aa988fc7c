import Derived.Test.YtfbbagddhfeefaaProg
import Derived.Below
import Derived.Deep.Draws
import Derived.Deep.AppendLies
import Derived.Maps.AppendAt
import Derived.OwnWalk
import Derived.Laws.BytesArg
import Derived.Laws.MakeOwn
import Derived.Laws.OwnMore
import Derived.Deep.OwnRows
import Derived.Tactics
import Derived.Lib.ConvBytes
import Derived.Laws.Slices
import Derived.WalkKit
import Derived.KernelRfl
import Derived.RowKit3
import Derived.Deep.LoopGhost
import Derived.Deep.QuietTactic
import Derived.BigQuiet
import Derived.WideLaws
import Derived.Deep.DeepCutAuto
import Derived.Deep.CutBlock
import Derived.Deep.RegionHeld3
import Derived.Laws.Rows
import Derived.Lib.AppendStr
import Derived.ArgAppend
import Derived.Laws.IdiomCopy
import Derived.OrdersHeld
import Derived.Laws.BitsLemmas
import Derived.RowKit
import Derived.WalkSpells
import Derived.Test.YtfbbagddhfeefaaZGLMine
import Derived.Test.YtfbbagddhfeefaaZGLLib
import Derived.Test.YtfbbagddhfeefaaZGLWWords
import Derived.Test.YtfbbagddhfeefaaZGLWLast
import Derived.Test.YtfbbagddhfeefaaZGLWTab
import Derived.Test.YtfbbagddhfeefaaZGLWFour
import Derived.Test.YtfbbagddhfeefaaZGLWQPut
import Derived.Test.YtfbbagddhfeefaaZGLWApart
import Derived.Test.YtfbbagddhfeefaaZGLWArr
import Derived.Test.YtfbbagddhfeefaaZGLWZeros
import Derived.Test.YtfbbagddhfeefaaZGLWFoot
import Derived.Test.YtfbbagddhfeefaaZGLWKept
import Derived.Test.YtfbbagddhfeefaaZGLWShare
import Derived.Test.YtfbbagddhfeefaaZGLWN
import Derived.Test.YtfbbagddhfeefaaZGLWFootNe
import Derived.Test.YtfbbagddhfeefaaZGLWAt
import Derived.Test.YtfbbagddhfeefaaZGLWEqStruct
import Derived.Test.YtfbbagddhfeefaaZGLWRepsOne
import Derived.Test.YtfbbagddhfeefaaZGLWInv
import Derived.Test.YtfbbagddhfeefaaZGLWInvWords
import Derived.Test.YtfbbagddhfeefaaZGLWGuard
import Derived.Test.YtfbbagddhfeefaaZGLWNEv
import Derived.Test.YtfbbagddhfeefaaZGLWMore
import Derived.Test.YtfbbagddhfeefaaZGLSays
namespace Go.Proofs.Ytfbbagddhfeefaa.PGL
open Go.RowKit Go.Proofs.YtfbbagddhfeefaaW.PrintWords Go.Proofs.YtfbbagddhfeefaaW.PrintLast Go.Proofs.YtfbbagddhfeefaaW.PrintMore
attribute [local go_sem high] Go.Proofs.Ytfbbagddhfeefaa.Mine.str_gtr Go.Proofs.Ytfbbagddhfeefaa.Mine.str_leq Go.Proofs.Ytfbbagddhfeefaa.Mine.str_geq
attribute [local go_sem] max2_int min2_int max_two min_two max_three min_three max_four min_four
set_option linter.unusedVariables false
set_option maxHeartbeats 8000000
set_option maxRecDepth 100000
set_option linter.unusedSimpArgs false
def errW : Option Int → Value
 | none => .nilIface
 | some c => .iface 0 (.int .i64 c)
theorem errW_none : errW none = .nilIface := rfl
theorem errW_some (c : Int) : errW (some c) = .iface 0 (.int .i64 c) := rfl
theorem info9 : (Try.prog.info? 9).map (fun i => (i.zero, i.size, i.bytes)) = some (some (.string ⟨#[]⟩), 1, 16) := by kernel_rfl
end Go.Proofs.Ytfbbagddhfeefaa.PGL
