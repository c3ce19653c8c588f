-- by hprint.py (wip/tools): the row of the law, out of its pure statement and the walk
import Derived.Test.YtomehbmijdjjfaaDoorHQ1
set_option linter.unusedVariables false
namespace Go.Proofs.YtomehbmijdjjfaaDoor.HQ
open Go.RowKit Go.Proofs.YtomehbmijdjjfaaDoorW.PrintWords Go.Proofs.YtomehbmijdjjfaaDoorW.PrintLast
/-- The pure statement: what the law says, without Go and memory. -/
def laws_FnExactFormatInt.PureH : Prop := ∀ (a0 : Int), (Lit.int .i64 a0).wf = true → ∃ k, laws_FnExactFormatInt.f k a0 = some true
end Go.Proofs.YtomehbmijdjjfaaDoor.HQ
