/- For every instruction, the program's FormatIns gives what the reference's gives. -/
import Derived.Test.YtionemdnfhcfpaaDoorHQFnExactFormatInsStmt
import Derived.Test.YtionemdnfhcfpaaDoorAid
import Derived.Test.YtionemdnfhcfpaaDoorLoopAid
import Derived.Test.YtionemdnfhcfpaaDoorInsTHQ
set_option linter.unusedVariables false
set_option linter.unusedSimpArgs false
namespace Go.Proofs.YtionemdnfhcfpaaDoor.Pure
open Go.RowKit Go.Proofs.YtionemdnfhcfpaaDoor.HQ Go.Proofs.YtionemdnfhcfpaaDoorW.PrintWords Go.Proofs.YtionemdnfhcfpaaDoorW.PrintLast Go.Proofs.YtionemdnfhcfpaaDoor.Aid

theorem FnExactFormatIns : laws_FnExactFormatIns.PureH := by
  intro op a b c h0 h1 h2 h3
  obtain ⟨K1, e1⟩ := formatIns_ev (op := op) (bd h1) (bd h2) (bd h3)
  obtain ⟨K2, e2⟩ := specFormatIns_ev (op := op) (bd h1) (bd h2) (bd h3)
  refine ⟨K1 + K2, ?_⟩
  have f1 := e1 (K1 + K2) (by omega)
  have f2 := e2 (K1 + K2) (by omega)
  simp only at f1 f2
  unfold laws_FnExactFormatIns.f laws_toIns.f
  simp only [Option.bind_some, f1, f2, if_true]

end Go.Proofs.YtionemdnfhcfpaaDoor.Pure
