-- by hprint.py (wip/tools): the row of the law, out of its pure statement and the walk
import Derived.Test.YteccjpcplceppaaH8
set_option linter.unusedVariables false
namespace Go.Proofs.Yteccjpcplceppaa.H
open Go.RowKit Go.Proofs.YteccjpcplceppaaW.PrintWords Go.Proofs.YteccjpcplceppaaW.PrintLast
/-- The pure statement: what the law says, without Go and memory. -/
def laws_FnExactAreWords.PureH : Prop := ∀ (l0 : List Int), l0.length * 8 ≤ 140737488351232 → (∀ x ∈ l0, (fun x : Int => (Lit.int .i64 x).wf = true) x) → ∃ k, laws_FnExactAreWords.f k l0 = some true
end Go.Proofs.Yteccjpcplceppaa.H
