-- by hprint.py (wip/tools): the row of the law, out of its pure statement and the walk
import Derived.Test.YtinjochelhmkjaaHI1
set_option linter.unusedVariables false
namespace Go.Proofs.Ytinjochelhmkjaa.HI
open Go.RowKit Go.Proofs.YtinjochelhmkjaaW.PrintWords Go.Proofs.YtinjochelhmkjaaW.PrintLast
/-- The pure statement: what the law says, without Go and memory. -/
def laws_FnExactIsLocal.PureH : Prop := ∀ (a0_0 a0_1 a0_2 a0_3 : Int), (Lit.int .i64 a0_0).wf = true → (Lit.int .i64 a0_1).wf = true → (Lit.int .i64 a0_2).wf = true → (Lit.int .i64 a0_3).wf = true → laws_FnExactIsLocal.f a0_0 a0_1 a0_2 a0_3 = some true
end Go.Proofs.Ytinjochelhmkjaa.HI
