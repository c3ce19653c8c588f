/- For every string: of at most 2^20 bytes, the program's ParseUint gives what the reference's gives; of a longer one the law asks nothing. -/
import Derived.Test.YtionemdnfhcfpaaDoorHQFnExactParseUintStmt
import Derived.Test.YtionemdnfhcfpaaDoorAid
import Derived.Test.YtionemdnfhcfpaaDoorLoopAid
import Derived.Test.YtionemdnfhcfpaaDoorUintTHQ
set_option linter.unusedVariables false
set_option linter.unusedSimpArgs false
namespace Go.Proofs.YtionemdnfhcfpaaDoor.Pure
open Go.RowKit Go.Proofs.YtionemdnfhcfpaaDoor.HQ Go.Proofs.YtionemdnfhcfpaaDoorW.PrintWords Go.Proofs.YtionemdnfhcfpaaDoorW.PrintLast Go.Proofs.YtionemdnfhcfpaaDoor.Aid

theorem FnExactParseUint : laws_FnExactParseUint.PureH := by
  intro a h8
  by_cases hl : (a.size : Int) > 1048576
  · refine ⟨0, ?_⟩
    unfold laws_FnExactParseUint.f
    rw [if_pos hl]
  obtain ⟨K, h1⟩ := specUint_ev a
  refine ⟨K, ?_⟩
  have e1 := h1 K (Nat.le_refl _)
  simp only at e1
  unfold laws_FnExactParseUint.f
  rw [if_neg hl, e1, Option.bind_some, implUint_val (by omega), Option.bind_some, if_pos rfl]
  have hb : ((puB a.data.toList).2 != (puB a.data.toList).2) = false := by cases (puB a.data.toList).2 <;> rfl
  rw [hb, if_neg (by decide)]

end Go.Proofs.YtionemdnfhcfpaaDoor.Pure
