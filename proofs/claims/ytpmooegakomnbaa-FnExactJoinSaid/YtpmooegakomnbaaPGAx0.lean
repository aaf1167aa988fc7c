/- The walks of the functions that these laws reach, and what each comes to: printed by this session's program. -/
import Derived.Test.YtpmooegakomnbaaProg
import Derived.Below
import Derived.Deep.Draws
import Derived.Deep.AppendLies
import Derived.Maps.AppendAt
import Derived.OwnWalk
import Derived.Laws.BytesArg
import Derived.Laws.MakeOwn
import Derived.Laws.OwnMore
import Derived.Deep.OwnRows
import Derived.Tactics
import Derived.Lib.ConvBytes
import Derived.Laws.Slices
import Derived.WalkKit
import Derived.KernelRfl
import Derived.RowKit3
import Derived.Deep.LoopGhost
import Derived.Deep.QuietTactic
import Derived.BigQuiet
import Derived.WideLaws
import Derived.Deep.DeepCutAuto
import Derived.Deep.CutBlock
import Derived.Deep.RegionHeld3
import Derived.Laws.Rows
import Derived.Lib.AppendStr
import Derived.ArgAppend
import Derived.Laws.IdiomCopy
import Derived.OrdersHeld
import Derived.Laws.BitsLemmas
import Derived.RowKit
import Derived.WalkSpells
import Derived.Test.YtpmooegakomnbaaMine
import Derived.Test.YtpmooegakomnbaaLib
import Derived.Test.YtpmooegakomnbaaWWords
import Derived.Test.YtpmooegakomnbaaWLast
import Derived.Test.YtpmooegakomnbaaWTab
import Derived.Test.YtpmooegakomnbaaWFour
import Derived.Test.YtpmooegakomnbaaWQPut
import Derived.Test.YtpmooegakomnbaaWApart
import Derived.Test.YtpmooegakomnbaaWArr
import Derived.Test.YtpmooegakomnbaaWZeros
import Derived.Test.YtpmooegakomnbaaWFoot
import Derived.Test.YtpmooegakomnbaaWKept
import Derived.Test.YtpmooegakomnbaaWShare
import Derived.Test.YtpmooegakomnbaaWN
import Derived.Test.YtpmooegakomnbaaWFootNe
import Derived.Test.YtpmooegakomnbaaWAt
import Derived.Test.YtpmooegakomnbaaWEqStruct
import Derived.Test.YtpmooegakomnbaaWRepsOne
import Derived.Test.YtpmooegakomnbaaWInv
import Derived.Test.YtpmooegakomnbaaWInvWords
import Derived.Test.YtpmooegakomnbaaWGuard
import Derived.Test.YtpmooegakomnbaaWNEv
import Derived.Test.YtpmooegakomnbaaWMore
namespace Go.Proofs.Ytpmooegakomnbaa.PGA
open Go.RowKit Go.Proofs.YtpmooegakomnbaaW.PrintWords Go.Proofs.YtpmooegakomnbaaW.PrintLast Go.Proofs.YtpmooegakomnbaaW.PrintMore
attribute [local go_sem high] Go.Proofs.Ytpmooegakomnbaa.Mine.str_gtr Go.Proofs.Ytpmooegakomnbaa.Mine.str_leq Go.Proofs.Ytpmooegakomnbaa.Mine.str_geq
attribute [local go_sem] max2_int min2_int max_two min_two max_three min_three max_four min_four   -- for this text's walks alone
set_option linter.unusedVariables false
set_option linter.unusedSimpArgs false



def errW : Option Int → Value
  | none => .nilIface
  | some c => .iface 0 (.int .i64 c)
theorem errW_none : errW none = .nilIface := rfl
theorem errW_some (c : Int) : errW (some c) = .iface 0 (.int .i64 c) := rfl

theorem info9 : (Try.prog.info? 9).map (fun i => (i.zero, i.size, i.bytes)) = some (some (.string ⟨#[]⟩), 1, 16) := by kernel_rfl
-- the values' own types

end Go.Proofs.Ytpmooegakomnbaa.PGA
