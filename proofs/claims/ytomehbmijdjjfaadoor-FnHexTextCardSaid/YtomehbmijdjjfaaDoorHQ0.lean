-- by hprint.py (wip/tools) over the kit's print.py: this session's text; Lean checks it
import Derived.Test.YtomehbmijdjjfaaDoorProg
import Derived.Below
import Derived.Deep.Draws
import Derived.Deep.AppendLies
import Derived.Maps.AppendAt
import Derived.OwnWalk
import Derived.Laws.BytesArg
import Derived.Laws.MakeOwn
import Derived.Laws.OwnMore
import Derived.Deep.OwnRows
import Derived.Tactics
import Derived.Lib.ConvBytes
import Derived.Laws.Slices
import Derived.WalkKit
import Derived.KernelRfl
import Derived.RowKit3
import Derived.Deep.LoopGhost
import Derived.Deep.QuietTactic
import Derived.BigQuiet
import Derived.WideLaws
import Derived.Deep.DeepCutAuto
import Derived.Deep.CutBlock
import Derived.Deep.RegionHeld3
import Derived.Laws.Rows
import Derived.Lib.AppendStr
import Derived.ArgAppend
import Derived.Laws.IdiomCopy
import Derived.OrdersHeld
import Derived.Laws.BitsLemmas
import Derived.RowKit
import Derived.Test.YtomehbmijdjjfaaDoorTabAid
import Derived.Test.YtomehbmijdjjfaaDoorNumAid
import Derived.Test.YtomehbmijdjjfaaDoorMakeAid
import Derived.Shelf.GgClosure.Gives
import Derived.Test.YtomehbmijdjjfaaDoorShelf
import Derived.Sort.OwnSortedInts
import Derived.Lib.RowBridge
import Derived.Test.YtomehbmijdjjfaaDoorWWords
import Derived.Test.YtomehbmijdjjfaaDoorWLast
import Derived.Test.YtomehbmijdjjfaaDoorWTab
import Derived.Test.YtomehbmijdjjfaaDoorWFour
import Derived.Test.YtomehbmijdjjfaaDoorWQPut
import Derived.Test.YtomehbmijdjjfaaDoorWApart
import Derived.Test.YtomehbmijdjjfaaDoorWArr
import Derived.Test.YtomehbmijdjjfaaDoorWZeros
import Derived.Test.YtomehbmijdjjfaaDoorWFoot
import Derived.Test.YtomehbmijdjjfaaDoorWKept
import Derived.Test.YtomehbmijdjjfaaDoorWShare
import Derived.Test.YtomehbmijdjjfaaDoorWN
import Derived.Test.YtomehbmijdjjfaaDoorWFootNe
import Derived.Test.YtomehbmijdjjfaaDoorWAt
import Derived.Test.YtomehbmijdjjfaaDoorWEqStruct
import Derived.Test.YtomehbmijdjjfaaDoorWRepsOne
import Derived.Test.YtomehbmijdjjfaaDoorWInv
import Derived.Test.YtomehbmijdjjfaaDoorWInvWords
import Derived.Test.YtomehbmijdjjfaaDoorWGuard
import Derived.Test.YtomehbmijdjjfaaDoorWNEv
import Derived.Test.YtomehbmijdjjfaaDoorWMore
namespace Go.Proofs.YtomehbmijdjjfaaDoor.HQ
open Go.RowKit Go.Proofs.YtomehbmijdjjfaaDoorW.PrintWords Go.Proofs.YtomehbmijdjjfaaDoorW.PrintLast Go.Proofs.YtomehbmijdjjfaaDoorW.PrintMore
attribute [local go_sem] max2_int min2_int max_two min_two max_three min_three max_four min_four   -- for this text's walks alone
set_option linter.unusedVariables false
set_option linter.unusedSimpArgs false



def errW : Option Int → Value
  | none => .nilIface
  | some c => .iface 0 (.int .i64 c)
theorem errW_none : errW none = .nilIface := rfl
theorem errW_some (c : Int) : errW (some c) = .iface 0 (.int .i64 c) := rfl

theorem info5 : (Tryd.prog.info? 5).map (fun i => (i.zero, i.size, i.bytes)) = some (some (.int .u8 0), 1, 1) := by kernel_rfl
-- the values' own types

end Go.Proofs.YtomehbmijdjjfaaDoor.HQ
