-- by hprint.py (wip/tools): the row of the law, out of its pure statement and the walk
import Derived.Test.YtionemdnfhcfpaaDoorHS10
set_option linter.unusedVariables false
namespace Go.Proofs.YtionemdnfhcfpaaDoor.HS
open Go.RowKit Go.Proofs.YtionemdnfhcfpaaDoorW.PrintWords Go.Proofs.YtionemdnfhcfpaaDoorW.PrintLast
/-- The pure statement: what the law says, without Go and memory. -/
def laws_FnExactParseProgram.PureH : Prop := ∀ (l0 : List ByteArray), l0.length * 16 ≤ 140737488351232 → (∀ x ∈ l0, (fun x : ByteArray => x.size ≤ maxLen) x) → ∃ k, laws_FnExactParseProgram.f k l0 = some true
end Go.Proofs.YtionemdnfhcfpaaDoor.HS
