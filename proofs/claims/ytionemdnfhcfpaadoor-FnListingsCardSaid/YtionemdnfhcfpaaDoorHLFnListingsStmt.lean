-- by hprint.py (wip/tools): the row of the law, out of its pure statement and the walk
import Derived.Test.YtionemdnfhcfpaaDoorHL6
set_option linter.unusedVariables false
namespace Go.Proofs.YtionemdnfhcfpaaDoor.HL
open Go.RowKit Go.Proofs.YtionemdnfhcfpaaDoorW.PrintWords Go.Proofs.YtionemdnfhcfpaaDoorW.PrintLast
/-- The pure statement: what the law says, without Go and memory. -/
def laws_FnListings.PureH : Prop := ∀ (l0 : List Int), l0.length * 1 ≤ 140737488351232 → (∀ x ∈ l0, (fun x : Int => (Lit.int .u8 x).wf = true) x) → ∃ k, laws_FnListings.f k l0 = some true
end Go.Proofs.YtionemdnfhcfpaaDoor.HL
