-- by hprint.py (wip/tools): the row of the law, out of its pure statement and the walk
import Derived.Test.YtomehbmijdjjfaaHN7
set_option linter.unusedVariables false
namespace Go.Proofs.Ytomehbmijdjjfaa.HN
open Go.RowKit Go.Proofs.YtomehbmijdjjfaaW.PrintWords Go.Proofs.YtomehbmijdjjfaaW.PrintLast
/-- The pure statement: what the law says, without Go and memory. -/
def laws_FnExactInsertNop.PureH : Prop := ∀ (l0 : List (S50)) (a1 : Int), l0.length * 32 ≤ 140737488351232 → (∀ x ∈ l0, (fun x : S50 => (Lit.int .i64 x.f0).wf = true ∧ (Lit.int .i64 x.f1).wf = true ∧ (Lit.int .i64 x.f2).wf = true ∧ (Lit.int .i64 x.f3).wf = true) x) → (Lit.int .i64 a1).wf = true → ∃ k, laws_FnExactInsertNop.f k l0 a1 = some true
end Go.Proofs.Ytomehbmijdjjfaa.HN
