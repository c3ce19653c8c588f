-- by hprint.py (wip/tools): the row of the law, out of its pure statement and the walk
import Derived.Test.YtomehbmijdjjfaaHR6
set_option linter.unusedVariables false
namespace Go.Proofs.Ytomehbmijdjjfaa.HR
open Go.RowKit Go.Proofs.YtomehbmijdjjfaaW.PrintWords Go.Proofs.YtomehbmijdjjfaaW.PrintLast
/-- The pure statement: what the law says, without Go and memory. -/
def laws_FnExactReadsRegs.PureH : Prop := ∀ (a0_0 a0_1 a0_2 a0_3 : Int), (Lit.int .i64 a0_0).wf = true → (Lit.int .i64 a0_1).wf = true → (Lit.int .i64 a0_2).wf = true → (Lit.int .i64 a0_3).wf = true → ∃ k, laws_FnExactReadsRegs.f k a0_0 a0_1 a0_2 a0_3 = some true
end Go.Proofs.Ytomehbmijdjjfaa.HR
