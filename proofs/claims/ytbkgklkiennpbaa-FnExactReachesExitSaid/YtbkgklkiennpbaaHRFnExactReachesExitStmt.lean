-- by hprint.py (wip/tools): the row of the law, out of its pure statement and the walk
import Derived.Test.YtbkgklkiennpbaaHR13
set_option linter.unusedVariables false
namespace Go.Proofs.Ytbkgklkiennpbaa.HR
open Go.RowKit Go.Proofs.YtbkgklkiennpbaaW.PrintWords Go.Proofs.YtbkgklkiennpbaaW.PrintLast
/-- The pure statement: what the law says, without Go and memory. -/
def laws_FnExactReachesExit.PureH : Prop := ∀ (l0 : List (S54)) (a1 : Int), l0.length * 32 ≤ 140737488351232 → (∀ x ∈ l0, (fun x : S54 => (Lit.int .i64 x.f0).wf = true ∧ (Lit.int .i64 x.f1).wf = true ∧ (Lit.int .i64 x.f2).wf = true ∧ (Lit.int .i64 x.f3).wf = true) x) → (Lit.int .i64 a1).wf = true → ∃ k, laws_FnExactReachesExit.f k l0 a1 = some true
end Go.Proofs.Ytbkgklkiennpbaa.HR
