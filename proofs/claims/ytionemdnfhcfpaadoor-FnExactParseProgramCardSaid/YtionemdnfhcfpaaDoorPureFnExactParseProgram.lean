/- For every row of lines: of at most 2^20 bytes and lines, the program's ParseProgram gives what the reference's gives, in memory of its own, and leaves the argument as it was; of a longer one the law asks nothing. -/
import Derived.Test.YtionemdnfhcfpaaDoorHSFnExactParseProgramStmt
import Derived.Test.YtionemdnfhcfpaaDoorAid
import Derived.Test.YtionemdnfhcfpaaDoorLoopAid
import Derived.Test.YtionemdnfhcfpaaDoorKitHS
set_option linter.unusedVariables false
set_option linter.unusedSimpArgs false
namespace Go.Proofs.YtionemdnfhcfpaaDoor.Pure
open Go.RowKit Go.Proofs.YtionemdnfhcfpaaDoor.HS Go.Proofs.YtionemdnfhcfpaaDoorW.PrintWords Go.Proofs.YtionemdnfhcfpaaDoorW.PrintLast Go.Proofs.YtionemdnfhcfpaaDoor.Aid

theorem FnExactParseProgram : laws_FnExactParseProgram.PureH := by
  intro l h8 hsz
  obtain ⟨v, hv, K0, h0⟩ := szStringS_ev l (by omega) (fun x hx => by have h := hsz x hx; have : maxLen = 9223372036854775807 := rfl; simp only at h; omega)
  by_cases hneg : v < 0
  · refine ⟨K0, ?_⟩
    have e0 : laws_szStringS.f K0 l 1048576 = some v := h0 K0 (Nat.le_refl _)
    unfold laws_FnExactParseProgram.f
    rw [e0, Option.bind_some, if_pos hneg]
  · have hl : l.length ≤ 1048576 := by omega
    obtain ⟨K1, h1⟩ := toStringS_ev l hl
    obtain ⟨K2, h2⟩ := specProgram_ev l hl
    obtain ⟨K3, h3⟩ := implProgram_ev l hl
    have hR := parseP_len l []
    generalize parseP l [] = RB at h2 h3 hR
    obtain ⟨R, B⟩ := RB
    simp only at hR
    obtain ⟨K4, h4⟩ := eqInsS_same R (by omega)
    obtain ⟨K5, h5⟩ := eqStringS_same l hl
    obtain ⟨K6, h6⟩ := markStringS_ev l hl
    obtain ⟨K7, h7⟩ := markInsS_all R (by omega)
    obtain ⟨K8, h8'⟩ := heldInsS_ev R.length (by omega)
    obtain ⟨k, hk⟩ : ∃ k, k = K0 + K1 + K2 + K3 + K4 + K5 + K6 + K7 + K8 := ⟨_, rfl⟩
    refine ⟨k + 3, ?_⟩
    have a0 := h0 (k + 3) (by omega)
    have a1 := h1 (k + 3) (by omega)
    have a2 := h2 (k + 3) (by omega)
    have a3 := h3 (k + 3) (by omega)
    have a4 := h4 (k + 3) (by omega)
    have b1 := h1 (k + 2) (by omega)
    have b5 := h5 (k + 2) (by omega)
    have b6 := h6 (k + 2) (by omega)
    have b4 := h4 (k + 2) (by omega)
    have c7 := h7 (k + 1) (by omega)
    have c8 := h8' (k + 1) (by omega)
    have c1 := h1 (k + 1) (by omega)
    have c3 := h3 (k + 1) (by omega)
    have c4 := h4 (k + 1) (by omega)
    have d8 := h8' k (by omega)
    simp only at a0 a1 a2 a3 a4 b1 b5 b6 b4 c7 c8 c1 c3 c4 d8
    have hb : (B != B) = false := by cases B <;> rfl
    unfold laws_FnExactParseProgram.f
    rw [a0, Option.bind_some, if_neg hneg]
    simp only [a1, a2, a3, a4, Option.bind_some, if_true, hb]
    simp only [laws_FnExactParseProgram.j0, b1, b5, b6, b4, Option.bind_some, if_true, hb]
    rw [if_neg (by decide), if_neg (by omega)]
    simp only [laws_FnExactParseProgram.j1, c7, c8, c1, c3, c4, Option.bind_some, if_true, hb]
    rw [if_neg (by decide), if_neg (by omega)]
    simp only [laws_FnExactParseProgram.j2, d8, Option.bind_some, if_true]
    rw [if_neg (by decide), if_neg (by omega)]

end Go.Proofs.YtionemdnfhcfpaaDoor.Pure
