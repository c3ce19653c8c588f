-- by hprint.py (wip/tools): the row of the law, out of its pure statement and the walk
import Derived.Test.YtionemdnfhcfpaaDoorHQ11
set_option linter.unusedVariables false
namespace Go.Proofs.YtionemdnfhcfpaaDoor.HQ
open Go.RowKit Go.Proofs.YtionemdnfhcfpaaDoorW.PrintWords Go.Proofs.YtionemdnfhcfpaaDoorW.PrintLast
/-- The pure statement: what the law says, without Go and memory. -/
def laws_FnExactFormatIns.PureH : Prop := ∀ (a0_0 a0_1 a0_2 a0_3 : Int), (Lit.int .i64 a0_0).wf = true → (Lit.int .i64 a0_1).wf = true → (Lit.int .i64 a0_2).wf = true → (Lit.int .i64 a0_3).wf = true → ∃ k, laws_FnExactFormatIns.f k a0_0 a0_1 a0_2 a0_3 = some true
end Go.Proofs.YtionemdnfhcfpaaDoor.HQ
