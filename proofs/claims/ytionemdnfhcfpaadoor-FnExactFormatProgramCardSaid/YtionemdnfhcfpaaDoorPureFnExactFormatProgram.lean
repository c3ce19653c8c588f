/- For every program of at most 2^20 instructions, the program's FormatProgram gives what the reference's gives, in memory of its own, and leaves the argument as it was; of a longer one the law asks nothing. -/
import Derived.Test.YtionemdnfhcfpaaDoorHQFnExactFormatProgramStmt
import Derived.Test.YtionemdnfhcfpaaDoorAid
import Derived.Test.YtionemdnfhcfpaaDoorLoopAid
import Derived.Test.YtionemdnfhcfpaaDoorKitPHQ
set_option linter.unusedVariables false
set_option linter.unusedSimpArgs false
namespace Go.Proofs.YtionemdnfhcfpaaDoor.Pure
open Go.RowKit Go.Proofs.YtionemdnfhcfpaaDoor.HQ Go.Proofs.YtionemdnfhcfpaaDoorW.PrintWords Go.Proofs.YtionemdnfhcfpaaDoorW.PrintLast Go.Proofs.YtionemdnfhcfpaaDoor.Aid

theorem FnExactFormatProgram : laws_FnExactFormatProgram.PureH := by
  intro l h8 hw
  by_cases hl : l.length ≤ 1048576
  · have hlp : (l.map conv).length ≤ 1048576 := by simpa using hl
    have hwf : ∀ x ∈ l.map conv, wfT x := by
      intro x hx
      obtain ⟨y, hy, rfl⟩ := List.mem_map.1 hx
      have h := hw y hy
      exact ⟨bd h.2.1, bd h.2.2.1, bd h.2.2.2⟩
    obtain ⟨K0, h0⟩ := formatProgram_ev hwf
    obtain ⟨K2, h2⟩ := specFormatProgram_ev hlp hwf
    have hRl : (if progB (l.map conv) = true then ((l.map conv).map lineT, true) else ([], false)).1.length ≤ 32 := by
      by_cases hok : progB (l.map conv) = true
      · rw [if_pos hok]
        unfold progB at hok
        rw [Bool.and_eq_true] at hok
        have := of_decide_eq_true hok.1
        rw [List.length_map]
        exact this
      · rw [if_neg hok]
        simp
    generalize (if progB (l.map conv) = true then ((l.map conv).map lineT, true) else ([], false)) = RB at h0 h2 hRl
    obtain ⟨R, B⟩ := RB
    simp only at hRl
    obtain ⟨K1, h1⟩ := toInsS_ev l hl
    obtain ⟨K3, h3⟩ := eqInsS_same (l.map conv) hlp
    obtain ⟨K4, h4⟩ := eqStringS_same R (by omega)
    obtain ⟨m, hm, K5, h5⟩ := markInsS_ev (l.map conv) hlp
    obtain ⟨K6, h6⟩ := markStringS_ev R (by omega)
    obtain ⟨K7, h7⟩ := heldStringS_ev R.length (by omega)
    obtain ⟨k, hk⟩ : ∃ k, k = K0 + K1 + K2 + K3 + K4 + K5 + K6 + K7 := ⟨_, rfl⟩
    refine ⟨k + 3, ?_⟩
    have e0 := h0 (k + 3) (by omega)
    have e1 := h1 (k + 3) (by omega)
    have e2 := h2 (k + 3) (by omega)
    have e4 := h4 (k + 3) (by omega)
    have f1 := h1 (k + 2) (by omega)
    have f3 := h3 (k + 2) (by omega)
    have f5 := h5 (k + 2) (by omega)
    have f4 := h4 (k + 2) (by omega)
    have g6 := h6 (k + 1) (by omega)
    have g7 := h7 (k + 1) (by omega)
    have g1 := h1 (k + 1) (by omega)
    have g0 := h0 (k + 1) (by omega)
    have g4 := h4 (k + 1) (by omega)
    have i7 := h7 k (by omega)
    simp only at e0 e1 e2 e4 f1 f3 f5 f4 g6 g7 g1 g0 g4 i7
    have hb : (B != B) = false := by cases B <;> rfl
    unfold laws_FnExactFormatProgram.f
    rw [szInsS_small l 1048576 (by omega) (by omega) (by omega), if_pos (by omega), Option.bind_some, if_neg (by omega)]
    simp only [e0, e1, e2, e4, Option.bind_some, if_true, hb]
    simp only [laws_FnExactFormatProgram.j0, f1, f3, f5, f4, Option.bind_some, if_true, hb]
    rw [if_neg (by decide), if_neg (by omega)]
    simp only [laws_FnExactFormatProgram.j1, g6, g7, g1, g0, g4, Option.bind_some, if_true, hb]
    rw [if_neg (by decide), if_neg (by omega)]
    simp only [laws_FnExactFormatProgram.j2, i7, Option.bind_some, if_true]
    rw [if_neg (by decide), if_neg (by omega)]
  · refine ⟨0, ?_⟩
    unfold laws_FnExactFormatProgram.f
    rw [szInsS_small l 1048576 (by omega) (by omega) (by omega), if_neg (by omega), Option.bind_some, if_pos (by omega)]

end Go.Proofs.YtionemdnfhcfpaaDoor.Pure
