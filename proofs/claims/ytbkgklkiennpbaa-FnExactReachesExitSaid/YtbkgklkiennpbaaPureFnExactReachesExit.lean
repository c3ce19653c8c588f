/- For every program of at most 2^20 instructions and every int, the program's ReachesExit gives what the reference's gives and leaves the argument as it was; of a longer one the law asks nothing. -/
import Derived.Test.YtbkgklkiennpbaaHRFnExactReachesExitStmt
import Derived.Test.YtbkgklkiennpbaaKitHR
import Derived.Test.YtbkgklkiennpbaaKitXHR
set_option linter.unusedVariables false
set_option linter.unusedSimpArgs false
namespace Go.Proofs.Ytbkgklkiennpbaa.Pure
open Go.RowKit Go.Proofs.Ytbkgklkiennpbaa.HR Go.Proofs.YtbkgklkiennpbaaW.PrintWords Go.Proofs.YtbkgklkiennpbaaW.PrintLast Go.Proofs.Ytbkgklkiennpbaa.Aid

theorem FnExactReachesExit : laws_FnExactReachesExit.PureH := by
  intro l a h8 _ _
  by_cases hl : l.length ≤ 1048576
  · have hlp : (l.map conv).length ≤ 1048576 := by simpa using hl
    obtain ⟨K0, h0⟩ := reachesExit_ev (l.map conv) a
    obtain ⟨K2, h2⟩ := specReachesExit_ev (l.map conv) hlp a
    obtain ⟨K1, h1⟩ := toInsS_ev l hl
    obtain ⟨K3, h3⟩ := eqInsS_same (l.map conv) hlp
    refine ⟨K0 + K1 + K2 + K3, ?_⟩
    have e0 := h0 (K0 + K1 + K2 + K3) (by omega)
    have e1 := h1 (K0 + K1 + K2 + K3) (by omega)
    have e2 := h2 (K0 + K1 + K2 + K3) (by omega)
    have e3 := h3 (K0 + K1 + K2 + K3) (by omega)
    simp only at e0 e1 e2 e3
    unfold laws_FnExactReachesExit.f
    rw [szInsS_small l 1048576 (by omega) (by omega) (by omega), if_pos (by omega), Option.bind_some, if_neg (by omega)]
    simp only [e0, e1, e2, e3, Option.bind_some, if_true]
    rw [if_neg (by simp)]
  · refine ⟨0, ?_⟩
    unfold laws_FnExactReachesExit.f
    rw [szInsS_small l 1048576 (by omega) (by omega) (by omega), if_neg (by omega), Option.bind_some, if_pos (by omega)]

end Go.Proofs.Ytbkgklkiennpbaa.Pure
