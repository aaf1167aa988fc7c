/- The walks of the functions that these laws reach, and what each comes to: printed by this session's program. -/
import Derived.Test.YtpmooegakomnbabDoorProg
import Derived.Below
import Derived.Deep.Draws
import Derived.Deep.AppendLies
import Derived.Maps.AppendAt
import Derived.OwnWalk
import Derived.Laws.BytesArg
import Derived.Laws.MakeOwn
import Derived.Laws.OwnMore
import Derived.Deep.OwnRows
import Derived.Tactics
import Derived.Lib.ConvBytes
import Derived.Laws.Slices
import Derived.WalkKit
import Derived.KernelRfl
import Derived.RowKit3
import Derived.Deep.LoopGhost
import Derived.Deep.QuietTactic
import Derived.BigQuiet
import Derived.WideLaws
import Derived.Deep.DeepCutAuto
import Derived.Deep.CutBlock
import Derived.Deep.RegionHeld3
import Derived.Laws.Rows
import Derived.Lib.AppendStr
import Derived.ArgAppend
import Derived.Laws.IdiomCopy
import Derived.OrdersHeld
import Derived.Laws.BitsLemmas
import Derived.RowKit
import Derived.WalkSpells
import Derived.Test.YtpmooegakomnbabDoorMine
import Derived.Test.YtpmooegakomnbabDoorGlobGD
import Derived.Test.YtpmooegakomnbabDoorWWords
import Derived.Test.YtpmooegakomnbabDoorWLast
import Derived.Test.YtpmooegakomnbabDoorWTab
import Derived.Test.YtpmooegakomnbabDoorWFour
import Derived.Test.YtpmooegakomnbabDoorWQPut
import Derived.Test.YtpmooegakomnbabDoorWApart
import Derived.Test.YtpmooegakomnbabDoorWArr
import Derived.Test.YtpmooegakomnbabDoorWZeros
import Derived.Test.YtpmooegakomnbabDoorWFoot
import Derived.Test.YtpmooegakomnbabDoorWKept
import Derived.Test.YtpmooegakomnbabDoorWShare
import Derived.Test.YtpmooegakomnbabDoorWN
import Derived.Test.YtpmooegakomnbabDoorWFootNe
import Derived.Test.YtpmooegakomnbabDoorWAt
import Derived.Test.YtpmooegakomnbabDoorWEqStruct
import Derived.Test.YtpmooegakomnbabDoorWRepsOne
import Derived.Test.YtpmooegakomnbabDoorWInv
import Derived.Test.YtpmooegakomnbabDoorWInvWords
import Derived.Test.YtpmooegakomnbabDoorWGuard
import Derived.Test.YtpmooegakomnbabDoorWNEv
import Derived.Test.YtpmooegakomnbabDoorWMore
namespace Go.Proofs.YtpmooegakomnbabDoor.PGD
open Go.RowKit Go.Proofs.YtpmooegakomnbabDoorW.PrintWords Go.Proofs.YtpmooegakomnbabDoorW.PrintLast Go.Proofs.YtpmooegakomnbabDoorW.PrintMore
attribute [local go_sem high] Go.Proofs.YtpmooegakomnbabDoor.Mine.str_gtr Go.Proofs.YtpmooegakomnbabDoor.Mine.str_leq Go.Proofs.YtpmooegakomnbabDoor.Mine.str_geq
attribute [local go_sem] max2_int min2_int max_two min_two max_three min_three max_four min_four   -- for this text's walks alone
set_option linter.unusedVariables false
set_option linter.unusedSimpArgs false



def errW : Option Int → Value
  | none => .nilIface
  | some c => .iface 0 (.int .i64 c)
theorem errW_none : errW none = .nilIface := rfl
theorem errW_some (c : Int) : errW (some c) = .iface 0 (.int .i64 c) := rfl

theorem info5 : (Tryd.prog.info? 5).map (fun i => (i.zero, i.size, i.bytes)) = some (some (.int .u8 0), 1, 1) := by kernel_rfl
theorem info9 : (Tryd.prog.info? 9).map (fun i => (i.zero, i.size, i.bytes)) = some (some (.string ⟨#[]⟩), 1, 16) := by kernel_rfl
-- the values' own types

end Go.Proofs.YtpmooegakomnbabDoor.PGD
