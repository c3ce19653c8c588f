/- For every string: of at most 2^20 bytes, the program's SplitFields gives what the reference's gives, in memory of its own; of a longer one the law asks nothing. -/
import Derived.Test.YtionemdnfhcfpaaDoorHQFnExactSplitFieldsStmt
import Derived.Test.YtionemdnfhcfpaaDoorAid
import Derived.Test.YtionemdnfhcfpaaDoorLoopAid
import Derived.Test.YtionemdnfhcfpaaDoorSplitTHQ
import Derived.Test.YtionemdnfhcfpaaDoorMarkTHQ
set_option linter.unusedVariables false
set_option linter.unusedSimpArgs false
namespace Go.Proofs.YtionemdnfhcfpaaDoor.Pure
open Go.RowKit Go.Proofs.YtionemdnfhcfpaaDoor.HQ Go.Proofs.YtionemdnfhcfpaaDoorW.PrintWords Go.Proofs.YtionemdnfhcfpaaDoorW.PrintLast Go.Proofs.YtionemdnfhcfpaaDoor.Aid

theorem FnExactSplitFields : laws_FnExactSplitFields.PureH := by
  intro a h8
  by_cases hl : (a.size : Int) > 1048576
  · refine ⟨0, ?_⟩
    unfold laws_FnExactSplitFields.f
    rw [if_pos hl]
  have hi := implSplit_val a
  obtain ⟨K1, h1⟩ := specSplit_ev a
  have hRl : ((splitB a.data.toList).1.map mkB).length ≤ 24 := by
    rw [List.length_map]
    unfold splitB
    split
    · split
      · assumption
      · simp
    · simp
  generalize (splitB a.data.toList).1.map mkB = R at hi h1 hRl
  generalize (splitB a.data.toList).2 = B at hi h1
  obtain ⟨K2, h2⟩ := eqStringS_same R (by omega)
  obtain ⟨K3, h3⟩ := markStringS_ev R (by omega)
  obtain ⟨K4, h4⟩ := heldStringS_ev R.length (by omega)
  refine ⟨K1 + K2 + K3 + K4 + 2, ?_⟩
  have e1 := h1 (K1 + K2 + K3 + K4 + 2) (by omega)
  have e2 := h2 (K1 + K2 + K3 + K4 + 2) (by omega)
  have f2 := h2 (K1 + K2 + K3 + K4 + 1) (by omega)
  have f3 := h3 (K1 + K2 + K3 + K4 + 1) (by omega)
  have f4 := h4 (K1 + K2 + K3 + K4 + 1) (by omega)
  have g4 := h4 (K1 + K2 + K3 + K4) (by omega)
  simp only at e1 e2 f2 f3 f4 g4
  have hb : (B != B) = false := by cases B <;> rfl
  unfold laws_FnExactSplitFields.f
  rw [if_neg hl, e1, Option.bind_some, hi, Option.bind_some, e2, Option.bind_some, if_pos rfl, hb]
  simp only [laws_FnExactSplitFields.j0, laws_FnExactSplitFields.j1, f3, f4, hi, f2, g4, hb, Option.bind_some, if_true]
  rw [if_neg (by decide), if_neg (by omega), if_neg (by decide), if_neg (by omega)]

end Go.Proofs.YtionemdnfhcfpaaDoor.Pure
