-- by hprint.py (wip/tools) over the kit's print.py: this session's text; Lean checks it
import Derived.Test.YtinjochelhmkjaaProg
import Derived.Below
import Derived.Deep.Draws
import Derived.Deep.AppendLies
import Derived.Maps.AppendAt
import Derived.OwnWalk
import Derived.Laws.BytesArg
import Derived.Laws.MakeOwn
import Derived.Laws.OwnMore
import Derived.Deep.OwnRows
import Derived.Tactics
import Derived.Lib.ConvBytes
import Derived.Laws.Slices
import Derived.WalkKit
import Derived.KernelRfl
import Derived.RowKit3
import Derived.Deep.LoopGhost
import Derived.Deep.QuietTactic
import Derived.BigQuiet
import Derived.WideLaws
import Derived.Deep.DeepCutAuto
import Derived.Deep.CutBlock
import Derived.Deep.RegionHeld3
import Derived.Laws.Rows
import Derived.Lib.AppendStr
import Derived.ArgAppend
import Derived.Laws.IdiomCopy
import Derived.OrdersHeld
import Derived.Laws.BitsLemmas
import Derived.RowKit
import Derived.Test.YtinjochelhmkjaaWWords
import Derived.Test.YtinjochelhmkjaaWLast
import Derived.Test.YtinjochelhmkjaaWTab
import Derived.Test.YtinjochelhmkjaaWFour
import Derived.Test.YtinjochelhmkjaaWQPut
import Derived.Test.YtinjochelhmkjaaWApart
import Derived.Test.YtinjochelhmkjaaWArr
import Derived.Test.YtinjochelhmkjaaWZeros
import Derived.Test.YtinjochelhmkjaaWFoot
import Derived.Test.YtinjochelhmkjaaWKept
import Derived.Test.YtinjochelhmkjaaWShare
import Derived.Test.YtinjochelhmkjaaWN
import Derived.Test.YtinjochelhmkjaaWFootNe
import Derived.Test.YtinjochelhmkjaaWAt
import Derived.Test.YtinjochelhmkjaaWEqStruct
import Derived.Test.YtinjochelhmkjaaWRepsOne
import Derived.Test.YtinjochelhmkjaaWInv
import Derived.Test.YtinjochelhmkjaaWInvWords
import Derived.Test.YtinjochelhmkjaaWGuard
import Derived.Test.YtinjochelhmkjaaWNEv
import Derived.Test.YtinjochelhmkjaaWMore
namespace Go.Proofs.Ytinjochelhmkjaa.HI
open Go.RowKit Go.Proofs.YtinjochelhmkjaaW.PrintWords Go.Proofs.YtinjochelhmkjaaW.PrintLast Go.Proofs.YtinjochelhmkjaaW.PrintMore
attribute [local go_sem] max2_int min2_int max_two min_two max_three min_three max_four min_four   -- for this text's walks alone
set_option linter.unusedVariables false
set_option linter.unusedSimpArgs false



def errW : Option Int → Value
  | none => .nilIface
  | some c => .iface 0 (.int .i64 c)
theorem errW_none : errW none = .nilIface := rfl
theorem errW_some (c : Int) : errW (some c) = .iface 0 (.int .i64 c) := rfl

-- the values' own types

end Go.Proofs.Ytinjochelhmkjaa.HI
