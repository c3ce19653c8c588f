-- by hprint.py (wip/tools): the row of the law, out of its pure statement and the walk
import Derived.Test.YtomehbmijdjjfaaHU10
set_option linter.unusedVariables false
namespace Go.Proofs.Ytomehbmijdjjfaa.HU
open Go.RowKit Go.Proofs.YtomehbmijdjjfaaW.PrintWords Go.Proofs.YtomehbmijdjjfaaW.PrintLast
/-- The pure statement: what the law says, without Go and memory. -/
def laws_FnUses.PureH : Prop := ∀ (l0 : List Int), l0.length * 1 ≤ 140737488351232 → (∀ x ∈ l0, (fun x : Int => (Lit.int .u8 x).wf = true) x) → ∃ k, laws_FnUses.f k l0 = some true
end Go.Proofs.Ytomehbmijdjjfaa.HU
