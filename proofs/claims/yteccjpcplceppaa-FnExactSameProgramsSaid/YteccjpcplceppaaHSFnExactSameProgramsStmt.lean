-- by hprint.py (wip/tools): the row of the law, out of its pure statement and the walk
import Derived.Test.YteccjpcplceppaaHS6
set_option linter.unusedVariables false
namespace Go.Proofs.Yteccjpcplceppaa.HS
open Go.RowKit Go.Proofs.YteccjpcplceppaaW.PrintWords Go.Proofs.YteccjpcplceppaaW.PrintLast
/-- The pure statement: what the law says, without Go and memory. -/
def laws_FnExactSamePrograms.PureH : Prop := ∀ (l0 : List (S25)) (l1 : List (S25)), l0.length * 32 ≤ 140737488351232 → (∀ x ∈ l0, (fun x : S25 => (Lit.int .i64 x.f0).wf = true ∧ (Lit.int .i64 x.f1).wf = true ∧ (Lit.int .i64 x.f2).wf = true ∧ (Lit.int .i64 x.f3).wf = true) x) → l1.length * 32 ≤ 140737488351232 → (∀ x ∈ l1, (fun x : S25 => (Lit.int .i64 x.f0).wf = true ∧ (Lit.int .i64 x.f1).wf = true ∧ (Lit.int .i64 x.f2).wf = true ∧ (Lit.int .i64 x.f3).wf = true) x) → ∃ k, laws_FnExactSamePrograms.f k l0 l1 = some true
end Go.Proofs.Yteccjpcplceppaa.HS
