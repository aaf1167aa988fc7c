/- The walks of the functions that these laws reach, and what each comes to: printed by this session's program. -/
import Derived.Test.YtcendeobgiphaaaProg
import Derived.Below
import Derived.Deep.Draws
import Derived.Deep.AppendLies
import Derived.Maps.AppendAt
import Derived.OwnWalk
import Derived.Laws.BytesArg
import Derived.Laws.MakeOwn
import Derived.Laws.OwnMore
import Derived.Deep.OwnRows
import Derived.Tactics
import Derived.Lib.ConvBytes
import Derived.Laws.Slices
import Derived.WalkKit
import Derived.KernelRfl
import Derived.RowKit3
import Derived.Deep.LoopGhost
import Derived.Deep.QuietTactic
import Derived.BigQuiet
import Derived.WideLaws
import Derived.Deep.DeepCutAuto
import Derived.Deep.CutBlock
import Derived.Deep.RegionHeld3
import Derived.Laws.Rows
import Derived.Lib.AppendStr
import Derived.ArgAppend
import Derived.Laws.IdiomCopy
import Derived.OrdersHeld
import Derived.Laws.BitsLemmas
import Derived.RowKit
import Derived.WalkSpells
import Derived.Test.YtcendeobgiphaaaMine
import Derived.Test.YtcendeobgiphaaaWWords
import Derived.Test.YtcendeobgiphaaaWLast
import Derived.Test.YtcendeobgiphaaaWTab
import Derived.Test.YtcendeobgiphaaaWFour
import Derived.Test.YtcendeobgiphaaaWQPut
import Derived.Test.YtcendeobgiphaaaWApart
import Derived.Test.YtcendeobgiphaaaWArr
import Derived.Test.YtcendeobgiphaaaWZeros
import Derived.Test.YtcendeobgiphaaaWFoot
import Derived.Test.YtcendeobgiphaaaWKept
import Derived.Test.YtcendeobgiphaaaWShare
import Derived.Test.YtcendeobgiphaaaWN
import Derived.Test.YtcendeobgiphaaaWFootNe
import Derived.Test.YtcendeobgiphaaaWAt
import Derived.Test.YtcendeobgiphaaaWEqStruct
import Derived.Test.YtcendeobgiphaaaWRepsOne
import Derived.Test.YtcendeobgiphaaaWInv
import Derived.Test.YtcendeobgiphaaaWInvWords
import Derived.Test.YtcendeobgiphaaaWGuard
import Derived.Test.YtcendeobgiphaaaWNEv
import Derived.Test.YtcendeobgiphaaaWMore
namespace Go.Proofs.Ytcendeobgiphaaa.PGE
open Go.RowKit Go.Proofs.YtcendeobgiphaaaW.PrintWords Go.Proofs.YtcendeobgiphaaaW.PrintLast Go.Proofs.YtcendeobgiphaaaW.PrintMore
attribute [local go_sem high] Go.Proofs.Ytcendeobgiphaaa.Mine.str_gtr Go.Proofs.Ytcendeobgiphaaa.Mine.str_leq Go.Proofs.Ytcendeobgiphaaa.Mine.str_geq
attribute [local go_sem] max2_int min2_int max_two min_two max_three min_three max_four min_four   -- for this text's walks alone
set_option linter.unusedVariables false
set_option linter.unusedSimpArgs false



def errW : Option Int → Value
  | none => .nilIface
  | some c => .iface 0 (.int .i64 c)
theorem errW_none : errW none = .nilIface := rfl
theorem errW_some (c : Int) : errW (some c) = .iface 0 (.int .i64 c) := rfl

theorem info5 : (Try.prog.info? 5).map (fun i => (i.zero, i.size, i.bytes)) = some (some (.int .u8 0), 1, 1) := by kernel_rfl
-- the values' own types

end Go.Proofs.Ytcendeobgiphaaa.PGE
