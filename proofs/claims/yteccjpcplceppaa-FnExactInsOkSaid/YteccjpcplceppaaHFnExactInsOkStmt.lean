-- by hprint.py (wip/tools): the row of the law, out of its pure statement and the walk
import Derived.Test.YteccjpcplceppaaH18
set_option linter.unusedVariables false
namespace Go.Proofs.Yteccjpcplceppaa.H
open Go.RowKit Go.Proofs.YteccjpcplceppaaW.PrintWords Go.Proofs.YteccjpcplceppaaW.PrintLast
/-- The pure statement: what the law says, without Go and memory. -/
def laws_FnExactInsOk.PureH : Prop := ∀ (a0_0 a0_1 a0_2 a0_3 : Int) (a1 : Int), (Lit.int .i64 a0_0).wf = true → (Lit.int .i64 a0_1).wf = true → (Lit.int .i64 a0_2).wf = true → (Lit.int .i64 a0_3).wf = true → (Lit.int .i64 a1).wf = true → ∃ k, laws_FnExactInsOk.f k a0_0 a0_1 a0_2 a0_3 a1 = some true
end Go.Proofs.Yteccjpcplceppaa.H
