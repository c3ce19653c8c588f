-- by hprint.py (wip/tools): the row of the law, out of its pure statement and the walk
import Derived.Test.YteccjpcplceppaaH18
set_option linter.unusedVariables false
namespace Go.Proofs.Yteccjpcplceppaa.H
open Go.RowKit Go.Proofs.YteccjpcplceppaaW.PrintWords Go.Proofs.YteccjpcplceppaaW.PrintLast
/-- The pure statement: what the law says, without Go and memory. -/
def laws_FnExactCountLanes.PureH : Prop := ∀ (a0 : Int), (Lit.int .i64 a0).wf = true → ∃ k, laws_FnExactCountLanes.f k a0 = some true
end Go.Proofs.Yteccjpcplceppaa.H
