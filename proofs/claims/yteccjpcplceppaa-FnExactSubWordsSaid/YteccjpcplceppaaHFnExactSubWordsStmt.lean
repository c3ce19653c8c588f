-- by hprint.py (wip/tools): the row of the law, out of its pure statement and the walk
import Derived.Test.YteccjpcplceppaaH2
set_option linter.unusedVariables false
namespace Go.Proofs.Yteccjpcplceppaa.H
open Go.RowKit Go.Proofs.YteccjpcplceppaaW.PrintWords Go.Proofs.YteccjpcplceppaaW.PrintLast
/-- The pure statement: what the law says, without Go and memory. -/
def laws_FnExactSubWords.PureH : Prop := ∀ (a0 : Int) (a1 : Int), (Lit.int .i64 a0).wf = true → (Lit.int .i64 a1).wf = true → laws_FnExactSubWords.f a0 a1 = some true
end Go.Proofs.Yteccjpcplceppaa.H
