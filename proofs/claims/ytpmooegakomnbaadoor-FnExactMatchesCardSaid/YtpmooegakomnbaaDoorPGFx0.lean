/- The walks of the functions that these laws reach, and what each comes to: printed by this session's program. -/
import Derived.Test.YtpmooegakomnbaaDoorProg
import Derived.Below
import Derived.Deep.Draws
import Derived.Deep.AppendLies
import Derived.Maps.AppendAt
import Derived.OwnWalk
import Derived.Laws.BytesArg
import Derived.Laws.MakeOwn
import Derived.Laws.OwnMore
import Derived.Deep.OwnRows
import Derived.Tactics
import Derived.Lib.ConvBytes
import Derived.Laws.Slices
import Derived.WalkKit
import Derived.KernelRfl
import Derived.RowKit3
import Derived.Deep.LoopGhost
import Derived.Deep.QuietTactic
import Derived.BigQuiet
import Derived.WideLaws
import Derived.Deep.DeepCutAuto
import Derived.Deep.CutBlock
import Derived.Deep.RegionHeld3
import Derived.Laws.Rows
import Derived.Lib.AppendStr
import Derived.ArgAppend
import Derived.Laws.IdiomCopy
import Derived.OrdersHeld
import Derived.Laws.BitsLemmas
import Derived.RowKit
import Derived.WalkSpells
import Derived.Test.YtpmooegakomnbaaDoorMine
import Derived.Test.YtpmooegakomnbaaDoorGlobGF
import Derived.Test.YtpmooegakomnbaaDoorWWords
import Derived.Test.YtpmooegakomnbaaDoorWLast
import Derived.Test.YtpmooegakomnbaaDoorWTab
import Derived.Test.YtpmooegakomnbaaDoorWFour
import Derived.Test.YtpmooegakomnbaaDoorWQPut
import Derived.Test.YtpmooegakomnbaaDoorWApart
import Derived.Test.YtpmooegakomnbaaDoorWArr
import Derived.Test.YtpmooegakomnbaaDoorWZeros
import Derived.Test.YtpmooegakomnbaaDoorWFoot
import Derived.Test.YtpmooegakomnbaaDoorWKept
import Derived.Test.YtpmooegakomnbaaDoorWShare
import Derived.Test.YtpmooegakomnbaaDoorWN
import Derived.Test.YtpmooegakomnbaaDoorWFootNe
import Derived.Test.YtpmooegakomnbaaDoorWAt
import Derived.Test.YtpmooegakomnbaaDoorWEqStruct
import Derived.Test.YtpmooegakomnbaaDoorWRepsOne
import Derived.Test.YtpmooegakomnbaaDoorWInv
import Derived.Test.YtpmooegakomnbaaDoorWInvWords
import Derived.Test.YtpmooegakomnbaaDoorWGuard
import Derived.Test.YtpmooegakomnbaaDoorWNEv
import Derived.Test.YtpmooegakomnbaaDoorWMore
namespace Go.Proofs.YtpmooegakomnbaaDoor.PGF
open Go.RowKit Go.Proofs.YtpmooegakomnbaaDoorW.PrintWords Go.Proofs.YtpmooegakomnbaaDoorW.PrintLast Go.Proofs.YtpmooegakomnbaaDoorW.PrintMore
attribute [local go_sem high] Go.Proofs.YtpmooegakomnbaaDoor.Mine.str_gtr Go.Proofs.YtpmooegakomnbaaDoor.Mine.str_leq Go.Proofs.YtpmooegakomnbaaDoor.Mine.str_geq
attribute [local go_sem] max2_int min2_int max_two min_two max_three min_three max_four min_four   -- for this text's walks alone
set_option linter.unusedVariables false
set_option linter.unusedSimpArgs false



def errW : Option Int → Value
  | none => .nilIface
  | some c => .iface 0 (.int .i64 c)
theorem errW_none : errW none = .nilIface := rfl
theorem errW_some (c : Int) : errW (some c) = .iface 0 (.int .i64 c) := rfl

theorem info9 : (Tryd.prog.info? 9).map (fun i => (i.zero, i.size, i.bytes)) = some (some (.string ⟨#[]⟩), 1, 16) := by kernel_rfl
-- the values' own types

end Go.Proofs.YtpmooegakomnbaaDoor.PGF
