-- by hprint.py (wip/tools): the row of the law, out of its pure statement and the walk
import Derived.Test.YtionemdnfhcfpaaDoorHR10
set_option linter.unusedVariables false
namespace Go.Proofs.YtionemdnfhcfpaaDoor.HR
open Go.RowKit Go.Proofs.YtionemdnfhcfpaaDoorW.PrintWords Go.Proofs.YtionemdnfhcfpaaDoorW.PrintLast
/-- The pure statement: what the law says, without Go and memory. -/
def laws_FnExactParseIns.PureH : Prop := ∀ (a0 : ByteArray), a0.size ≤ 140737488351232 → ∃ k, laws_FnExactParseIns.f k a0 = some true
end Go.Proofs.YtionemdnfhcfpaaDoor.HR
