-- by hprint.py (wip/tools): the row of the law, out of its pure statement and the walk
import Derived.Test.YtionemdnfhcfpaaDoorHQ16
set_option linter.unusedVariables false
namespace Go.Proofs.YtionemdnfhcfpaaDoor.HQ
open Go.RowKit Go.Proofs.YtionemdnfhcfpaaDoorW.PrintWords Go.Proofs.YtionemdnfhcfpaaDoorW.PrintLast
/-- The pure statement: what the law says, without Go and memory. -/
def laws_FnExactFormatProgram.PureH : Prop := ∀ (l0 : List (S29)), l0.length * 32 ≤ 140737488351232 → (∀ x ∈ l0, (fun x : S29 => (Lit.int .i64 x.f0).wf = true ∧ (Lit.int .i64 x.f1).wf = true ∧ (Lit.int .i64 x.f2).wf = true ∧ (Lit.int .i64 x.f3).wf = true) x) → ∃ k, laws_FnExactFormatProgram.f k l0 = some true
end Go.Proofs.YtionemdnfhcfpaaDoor.HQ
