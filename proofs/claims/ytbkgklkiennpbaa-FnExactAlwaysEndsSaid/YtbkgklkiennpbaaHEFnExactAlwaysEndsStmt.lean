-- by hprint.py (wip/tools): the row of the law, out of its pure statement and the walk
import Derived.Test.YtbkgklkiennpbaaHE12
set_option linter.unusedVariables false
namespace Go.Proofs.Ytbkgklkiennpbaa.HE
open Go.RowKit Go.Proofs.YtbkgklkiennpbaaW.PrintWords Go.Proofs.YtbkgklkiennpbaaW.PrintLast
/-- The pure statement: what the law says, without Go and memory. -/
def laws_FnExactAlwaysEnds.PureH : Prop := ∀ (l0 : List (S54)), l0.length * 32 ≤ 140737488351232 → (∀ x ∈ l0, (fun x : S54 => (Lit.int .i64 x.f0).wf = true ∧ (Lit.int .i64 x.f1).wf = true ∧ (Lit.int .i64 x.f2).wf = true ∧ (Lit.int .i64 x.f3).wf = true) x) → ∃ k, laws_FnExactAlwaysEnds.f k l0 = some true
end Go.Proofs.Ytbkgklkiennpbaa.HE
