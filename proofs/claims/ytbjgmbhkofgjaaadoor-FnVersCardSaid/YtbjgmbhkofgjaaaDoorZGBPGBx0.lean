import Derived.Test.YtbjgmbhkofgjaaaDoorProg
import Derived.Below
import Derived.Deep.Draws
import Derived.Deep.AppendLies
import Derived.Maps.AppendAt
import Derived.OwnWalk
import Derived.Laws.BytesArg
import Derived.Laws.MakeOwn
import Derived.Laws.OwnMore
import Derived.Deep.OwnRows
import Derived.Tactics
import Derived.Lib.ConvBytes
import Derived.Laws.Slices
import Derived.WalkKit
import Derived.KernelRfl
import Derived.RowKit3
import Derived.Deep.LoopGhost
import Derived.Deep.QuietTactic
import Derived.BigQuiet
import Derived.WideLaws
import Derived.Deep.DeepCutAuto
import Derived.Deep.CutBlock
import Derived.Deep.RegionHeld3
import Derived.Laws.Rows
import Derived.Lib.AppendStr
import Derived.ArgAppend
import Derived.Laws.IdiomCopy
import Derived.OrdersHeld
import Derived.Laws.BitsLemmas
import Derived.RowKit
import Derived.WalkSpells
import Derived.Test.YtbjgmbhkofgjaaaDoorZGBMine
import Derived.Test.YtbjgmbhkofgjaaaDoorZGBGlobGB
import Derived.Test.YtbjgmbhkofgjaaaDoorZGBWWords
import Derived.Test.YtbjgmbhkofgjaaaDoorZGBWLast
import Derived.Test.YtbjgmbhkofgjaaaDoorZGBWTab
import Derived.Test.YtbjgmbhkofgjaaaDoorZGBWFour
import Derived.Test.YtbjgmbhkofgjaaaDoorZGBWQPut
import Derived.Test.YtbjgmbhkofgjaaaDoorZGBWApart
import Derived.Test.YtbjgmbhkofgjaaaDoorZGBWArr
import Derived.Test.YtbjgmbhkofgjaaaDoorZGBWZeros
import Derived.Test.YtbjgmbhkofgjaaaDoorZGBWFoot
import Derived.Test.YtbjgmbhkofgjaaaDoorZGBWKept
import Derived.Test.YtbjgmbhkofgjaaaDoorZGBWShare
import Derived.Test.YtbjgmbhkofgjaaaDoorZGBWN
import Derived.Test.YtbjgmbhkofgjaaaDoorZGBWFootNe
import Derived.Test.YtbjgmbhkofgjaaaDoorZGBWAt
import Derived.Test.YtbjgmbhkofgjaaaDoorZGBWEqStruct
import Derived.Test.YtbjgmbhkofgjaaaDoorZGBWRepsOne
import Derived.Test.YtbjgmbhkofgjaaaDoorZGBWInv
import Derived.Test.YtbjgmbhkofgjaaaDoorZGBWInvWords
import Derived.Test.YtbjgmbhkofgjaaaDoorZGBWGuard
import Derived.Test.YtbjgmbhkofgjaaaDoorZGBWNEv
import Derived.Test.YtbjgmbhkofgjaaaDoorZGBWMore
import Derived.Test.YtbjgmbhkofgjaaaDoorZGBSays
namespace Go.Proofs.YtbjgmbhkofgjaaaDoor.PGB
open Go.RowKit Go.Proofs.YtbjgmbhkofgjaaaDoorW.PrintWords Go.Proofs.YtbjgmbhkofgjaaaDoorW.PrintLast Go.Proofs.YtbjgmbhkofgjaaaDoorW.PrintMore
attribute [local go_sem high] Go.Proofs.YtbjgmbhkofgjaaaDoor.Mine.str_gtr Go.Proofs.YtbjgmbhkofgjaaaDoor.Mine.str_leq Go.Proofs.YtbjgmbhkofgjaaaDoor.Mine.str_geq
attribute [local go_sem] max2_int min2_int max_two min_two max_three min_three max_four min_four
set_option linter.unusedVariables false
set_option maxHeartbeats 8000000
set_option maxRecDepth 100000
set_option linter.unusedSimpArgs false
def errW : Option Int → Value
 | none => .nilIface
 | some c => .iface 0 (.int .i64 c)
theorem errW_none : errW none = .nilIface := rfl
theorem errW_some (c : Int) : errW (some c) = .iface 0 (.int .i64 c) := rfl
theorem info9 : (Tryd.prog.info? 9).map (fun i => (i.zero, i.size, i.bytes)) = some (some (.string ⟨#[]⟩), 1, 16) := by kernel_rfl
end Go.Proofs.YtbjgmbhkofgjaaaDoor.PGB
