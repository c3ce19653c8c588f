/- For every string: of at most 2^20 bytes, the program's ParseIns gives what the reference's gives; of a longer one the law asks nothing. -/
import Derived.Test.YtionemdnfhcfpaaDoorHRFnExactParseInsStmt
import Derived.Test.YtionemdnfhcfpaaDoorAid
import Derived.Test.YtionemdnfhcfpaaDoorLoopAid
import Derived.Test.YtionemdnfhcfpaaDoorParseTHR
set_option linter.unusedVariables false
set_option linter.unusedSimpArgs false
namespace Go.Proofs.YtionemdnfhcfpaaDoor.Pure
open Go.RowKit Go.Proofs.YtionemdnfhcfpaaDoor.HR Go.Proofs.YtionemdnfhcfpaaDoorW.PrintWords Go.Proofs.YtionemdnfhcfpaaDoorW.PrintLast Go.Proofs.YtionemdnfhcfpaaDoor.Aid

theorem FnExactParseIns : laws_FnExactParseIns.PureH := by
  intro a h8
  by_cases hl : (a.size : Int) > 1048576
  · refine ⟨0, ?_⟩
    unfold laws_FnExactParseIns.f
    rw [if_pos hl]
  obtain ⟨⟨r1, r2, r3, r4, r5⟩, ⟨K1, h1⟩, ⟨K2, h2⟩, _⟩ := parse_ev a
  refine ⟨K1 + K2, ?_⟩
  have e1 : impl_ParseIns.f (K1 + K2) a = some (r1, r2, r3, r4, r5) := h1 _ (by omega)
  have e2 : spec_ParseIns.f (K1 + K2) a = some (r1, r2, r3, r4, r5) := h2 _ (by omega)
  unfold laws_FnExactParseIns.f
  rw [if_neg hl, e2, Option.bind_some, e1, Option.bind_some]
  unfold laws_eqIns.f
  rw [if_pos rfl, if_pos rfl, if_pos rfl, if_pos rfl, Option.bind_some, if_pos rfl]
  cases r5 <;> rfl

end Go.Proofs.YtionemdnfhcfpaaDoor.Pure
