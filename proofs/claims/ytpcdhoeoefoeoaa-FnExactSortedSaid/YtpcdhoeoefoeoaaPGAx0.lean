/- The walks of the functions that these laws reach, and what each comes to: printed by this session's program. -/
import Derived.Test.YtpcdhoeoefoeoaaProg
import Derived.Below
import Derived.Deep.Draws
import Derived.Deep.AppendLies
import Derived.Maps.AppendAt
import Derived.OwnWalk
import Derived.Laws.BytesArg
import Derived.Laws.MakeOwn
import Derived.Laws.OwnMore
import Derived.Deep.OwnRows
import Derived.Tactics
import Derived.Lib.ConvBytes
import Derived.Laws.Slices
import Derived.WalkKit
import Derived.KernelRfl
import Derived.RowKit3
import Derived.Deep.LoopGhost
import Derived.Deep.QuietTactic
import Derived.BigQuiet
import Derived.WideLaws
import Derived.Deep.DeepCutAuto
import Derived.Deep.CutBlock
import Derived.Deep.RegionHeld3
import Derived.Laws.Rows
import Derived.Lib.AppendStr
import Derived.ArgAppend
import Derived.Laws.IdiomCopy
import Derived.OrdersHeld
import Derived.Laws.BitsLemmas
import Derived.RowKit
import Derived.WalkSpells
import Derived.Test.YtpcdhoeoefoeoaaMine
import Derived.Test.YtpcdhoeoefoeoaaLib
import Derived.Test.YtpcdhoeoefoeoaaWWords
import Derived.Test.YtpcdhoeoefoeoaaWLast
import Derived.Test.YtpcdhoeoefoeoaaWTab
import Derived.Test.YtpcdhoeoefoeoaaWFour
import Derived.Test.YtpcdhoeoefoeoaaWQPut
import Derived.Test.YtpcdhoeoefoeoaaWApart
import Derived.Test.YtpcdhoeoefoeoaaWArr
import Derived.Test.YtpcdhoeoefoeoaaWZeros
import Derived.Test.YtpcdhoeoefoeoaaWFoot
import Derived.Test.YtpcdhoeoefoeoaaWKept
import Derived.Test.YtpcdhoeoefoeoaaWShare
import Derived.Test.YtpcdhoeoefoeoaaWN
import Derived.Test.YtpcdhoeoefoeoaaWFootNe
import Derived.Test.YtpcdhoeoefoeoaaWAt
import Derived.Test.YtpcdhoeoefoeoaaWEqStruct
import Derived.Test.YtpcdhoeoefoeoaaWRepsOne
import Derived.Test.YtpcdhoeoefoeoaaWInv
import Derived.Test.YtpcdhoeoefoeoaaWInvWords
import Derived.Test.YtpcdhoeoefoeoaaWGuard
import Derived.Test.YtpcdhoeoefoeoaaWNEv
import Derived.Test.YtpcdhoeoefoeoaaWMore
namespace Go.Proofs.Ytpcdhoeoefoeoaa.PGA
open Go.RowKit Go.Proofs.YtpcdhoeoefoeoaaW.PrintWords Go.Proofs.YtpcdhoeoefoeoaaW.PrintLast Go.Proofs.YtpcdhoeoefoeoaaW.PrintMore
attribute [local go_sem high] Go.Proofs.Ytpcdhoeoefoeoaa.Mine.str_gtr Go.Proofs.Ytpcdhoeoefoeoaa.Mine.str_leq Go.Proofs.Ytpcdhoeoefoeoaa.Mine.str_geq
attribute [local go_sem] max2_int min2_int max_two min_two max_three min_three max_four min_four   -- for this text's walks alone
set_option linter.unusedVariables false
set_option linter.unusedSimpArgs false



def errW : Option Int → Value
  | none => .nilIface
  | some c => .iface 0 (.int .i64 c)
theorem errW_none : errW none = .nilIface := rfl
theorem errW_some (c : Int) : errW (some c) = .iface 0 (.int .i64 c) := rfl

theorem info5 : (Try.prog.info? 5).map (fun i => (i.zero, i.size, i.bytes)) = some (some (.int .u8 0), 1, 1) := by kernel_rfl
theorem info9 : (Try.prog.info? 9).map (fun i => (i.zero, i.size, i.bytes)) = some (some (.string ⟨#[]⟩), 1, 16) := by kernel_rfl
-- the values' own types

end Go.Proofs.Ytpcdhoeoefoeoaa.PGA
