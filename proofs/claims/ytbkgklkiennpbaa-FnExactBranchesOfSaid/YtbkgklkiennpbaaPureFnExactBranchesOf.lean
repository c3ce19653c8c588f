/- For every program of at most 2^20 instructions, the program's BranchesOf gives what the reference's gives, in memory of its own, and leaves the argument as it was; of a longer one the law asks nothing. -/
import Derived.Test.YtbkgklkiennpbaaHNFnExactBranchesOfStmt
import Derived.Test.YtbkgklkiennpbaaKitHN
set_option linter.unusedVariables false
set_option linter.unusedSimpArgs false
namespace Go.Proofs.Ytbkgklkiennpbaa.Pure
open Go.RowKit Go.Proofs.Ytbkgklkiennpbaa.HN Go.Proofs.YtbkgklkiennpbaaW.PrintWords Go.Proofs.YtbkgklkiennpbaaW.PrintLast Go.Proofs.Ytbkgklkiennpbaa.Aid

theorem FnExactBranchesOf : laws_FnExactBranchesOf.PureH := by
  intro l h8 _
  by_cases hl : l.length ≤ 1048576
  · have hlp : (l.map conv).length ≤ 1048576 := by simpa using hl
    obtain ⟨K0, h0⟩ := branches_ev (l.map conv) hlp
    obtain ⟨K2, h2⟩ := specBranches_ev (l.map conv) hlp
    have hRl := brs_len (l.map conv)
    generalize brs (l.map conv) = R at h0 h2 hRl
    obtain ⟨K1, h1⟩ := toInsS_ev l hl
    obtain ⟨K3, h3⟩ := eqInsS_same (l.map conv) hlp
    obtain ⟨K4, h4⟩ := eqIntS_same R (by omega)
    obtain ⟨m, hm, K5, h5⟩ := markInsS_ev (l.map conv) hlp
    obtain ⟨K6, h6⟩ := markIntS_ev R (by omega)
    obtain ⟨K7, h7⟩ := heldIntS_ev R.length (by omega)
    refine ⟨K0 + K1 + K2 + K3 + K4 + K5 + K6 + K7 + 1, ?_⟩
    have e0 := h0 (K0 + K1 + K2 + K3 + K4 + K5 + K6 + K7 + 1) (by omega)
    have e1 := h1 (K0 + K1 + K2 + K3 + K4 + K5 + K6 + K7 + 1) (by omega)
    have e2 := h2 (K0 + K1 + K2 + K3 + K4 + K5 + K6 + K7 + 1) (by omega)
    have e3 := h3 (K0 + K1 + K2 + K3 + K4 + K5 + K6 + K7 + 1) (by omega)
    have e4 := h4 (K0 + K1 + K2 + K3 + K4 + K5 + K6 + K7 + 1) (by omega)
    have e5 := h5 (K0 + K1 + K2 + K3 + K4 + K5 + K6 + K7 + 1) (by omega)
    have f0 := h0 (K0 + K1 + K2 + K3 + K4 + K5 + K6 + K7) (by omega)
    have f1 := h1 (K0 + K1 + K2 + K3 + K4 + K5 + K6 + K7) (by omega)
    have f4 := h4 (K0 + K1 + K2 + K3 + K4 + K5 + K6 + K7) (by omega)
    have f6 := h6 (K0 + K1 + K2 + K3 + K4 + K5 + K6 + K7) (by omega)
    have f7 := h7 (K0 + K1 + K2 + K3 + K4 + K5 + K6 + K7) (by omega)
    simp only at e0 e1 e2 e3 e4 e5 f0 f1 f4 f6 f7
    unfold laws_FnExactBranchesOf.f
    rw [szInsS_small l 1048576 (by omega) (by omega) (by omega), if_pos (by omega), Option.bind_some, if_neg (by omega)]
    simp only [e0, e1, e2, e3, e4, e5, Option.bind_some, if_true]
    rw [if_neg (by omega)]
    simp only [laws_FnExactBranchesOf.j0, f0, f1, f4, f6, f7, Option.bind_some, if_true, Bool.not_true]
    rw [if_neg (by decide), if_neg (by omega), if_neg (by omega)]
  · refine ⟨0, ?_⟩
    unfold laws_FnExactBranchesOf.f
    rw [szInsS_small l 1048576 (by omega) (by omega) (by omega), if_neg (by omega), Option.bind_some, if_pos (by omega)]

end Go.Proofs.Ytbkgklkiennpbaa.Pure
