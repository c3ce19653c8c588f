-- by hprint.py (wip/tools): the row of the law, out of its pure statement and the walk
import Derived.Test.YtomehbmijdjjfaaDoorHQ6
set_option linter.unusedVariables false
namespace Go.Proofs.YtomehbmijdjjfaaDoor.HQ
open Go.RowKit Go.Proofs.YtomehbmijdjjfaaDoorW.PrintWords Go.Proofs.YtomehbmijdjjfaaDoorW.PrintLast
/-- The pure statement: what the law says, without Go and memory. -/
def laws_FnHexText.PureH : Prop := ∀ (l0 : List Int), l0.length * 1 ≤ 140737488351232 → (∀ x ∈ l0, (fun x : Int => (Lit.int .u8 x).wf = true) x) → ∃ k, laws_FnHexText.f k l0 = some true
end Go.Proofs.YtomehbmijdjjfaaDoor.HQ
