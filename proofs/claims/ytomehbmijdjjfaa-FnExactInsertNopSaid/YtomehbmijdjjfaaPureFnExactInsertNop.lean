/- For every program of at most 2^20 instructions and every place, the program's InsertNop gives what the reference's gives, in memory of its own, and leaves the argument as it was; of a longer one the law asks nothing. -/
import Derived.Test.YtomehbmijdjjfaaHNFnExactInsertNopStmt
import Derived.Test.YtomehbmijdjjfaaAid
import Derived.Test.YtomehbmijdjjfaaLoopAid
import Derived.Test.YtomehbmijdjjfaaListSHN
import Derived.Test.YtomehbmijdjjfaaMarkNHN
import Derived.Test.YtomehbmijdjjfaaInsOkIHN
import Derived.Test.YtomehbmijdjjfaaInsOkSHN
import Derived.Test.YtomehbmijdjjfaaProgOkIHN
import Derived.Test.YtomehbmijdjjfaaProgOkSHN
import Derived.Test.YtomehbmijdjjfaaNopTHN
set_option linter.unusedVariables false
set_option linter.unusedSimpArgs false
namespace Go.Proofs.Ytomehbmijdjjfaa.Pure
open Go.RowKit Go.Proofs.Ytomehbmijdjjfaa.HN Go.Proofs.YtomehbmijdjjfaaW.PrintWords Go.Proofs.YtomehbmijdjjfaaW.PrintLast Go.Proofs.Ytomehbmijdjjfaa.Aid

theorem FnExactInsertNop : laws_FnExactInsertNop.PureH := by
  intro l a h8 _ _
  by_cases hl : l.length ≤ 1048576
  · have hlp : (l.map conv).length ≤ 1048576 := by simpa using hl
    have hRl := nopB_len (l.map conv) a hlp
    have hi := implNop_val (l.map conv) a hlp
    obtain ⟨K0, h0⟩ := toInsS_ev l hl
    obtain ⟨K1, h1⟩ := specNop_ev (l.map conv) a hlp
    generalize nopB (l.map conv) a = R at hRl hi h1
    obtain ⟨G, B⟩ := R
    have hG : G.length ≤ 1048576 := hRl
    obtain ⟨K2, h2⟩ := eqInsS_same G hG
    obtain ⟨K3, h3⟩ := eqInsS_same (l.map conv) hlp
    obtain ⟨K4, h4⟩ := markInsS_all (l.map conv) hlp
    obtain ⟨K5, h5⟩ := markInsS_all G hG
    obtain ⟨K6, h6⟩ := heldInsS_ev G.length hG
    obtain ⟨K, hK⟩ : ∃ K, K = K0 + K1 + K2 + K3 + K4 + K5 + K6 := ⟨_, rfl⟩
    refine ⟨K + 3, ?_⟩
    have a3 : laws_toInsS.f (K + 3) l = some (l.map conv) := h0 (K + 3) (by omega)
    have a2 : laws_toInsS.f (K + 2) l = some (l.map conv) := h0 (K + 2) (by omega)
    have a1 : laws_toInsS.f (K + 1) l = some (l.map conv) := h0 (K + 1) (by omega)
    have b3 : spec_InsertNop.f (K + 3) (l.map conv) a = some (G, B) := h1 (K + 3) (by omega)
    have c3 : laws_eqInsS.f (K + 3) G G = some true := h2 (K + 3) (by omega)
    have c2 : laws_eqInsS.f (K + 2) G G = some true := h2 (K + 2) (by omega)
    have c1 : laws_eqInsS.f (K + 1) G G = some true := h2 (K + 1) (by omega)
    have d2 : laws_eqInsS.f (K + 2) (l.map conv) (l.map conv) = some true := h3 (K + 2) (by omega)
    have e2 : laws_markInsS.f (K + 2) (l.map conv) 1 = some (((4 * (l.map conv).length + 1 : Nat) : Int), marksI (l.map conv).length) := h4 (K + 2) (by omega)
    have e1 : laws_markInsS.f (K + 1) G 1 = some (((4 * G.length + 1 : Nat) : Int), marksI G.length) := h5 (K + 1) (by omega)
    have f1 : laws_heldInsS.f (K + 1) (marksI G.length) 1 = some ((4 * G.length + 1 : Nat) : Int) := h6 (K + 1) (by omega)
    have f0 : laws_heldInsS.f K (marksI G.length) 1 = some ((4 * G.length + 1 : Nat) : Int) := h6 K (by omega)
    have hb : (B != B) = false := by cases B <;> rfl
    have j2 : laws_FnExactInsertNop.j2 (K + 1) (marksI G.length) ((4 * G.length + 1 : Nat) : Int) false = some true := by
      simp only [laws_FnExactInsertNop.j2]
      rw [if_neg (by decide), f0, Option.bind_some, if_neg (by omega), if_pos rfl]
    have j1 : laws_FnExactInsertNop.j1 (K + 2) l a G B G false = some true := by
      simp only [laws_FnExactInsertNop.j1]
      rw [if_neg (by decide), e1, Option.bind_some]
      simp only
      rw [f1, Option.bind_some, if_neg (by omega), if_pos rfl, a1, Option.bind_some, hi, Option.bind_some]
      simp only
      rw [c1, Option.bind_some, if_pos rfl, hb]
      exact j2
    have j0 : laws_FnExactInsertNop.j0 (K + 3) l a G B (l.map conv) G B false = some true := by
      simp only [laws_FnExactInsertNop.j0]
      rw [if_neg (by decide), a2, Option.bind_some, d2, Option.bind_some, if_pos rfl, e2, Option.bind_some]
      simp only
      rw [if_neg (by omega), c2, Option.bind_some, if_pos rfl, hb]
      exact j1
    unfold laws_FnExactInsertNop.f
    rw [szInsS_small l 1048576 (by omega) (by omega) (by omega), if_pos (by omega), Option.bind_some, if_neg (by omega), a3, Option.bind_some, b3, Option.bind_some, Option.bind_some, hi, Option.bind_some]
    simp only
    rw [c3, Option.bind_some, if_pos rfl, hb]
    exact j0
  · refine ⟨0, ?_⟩
    unfold laws_FnExactInsertNop.f
    rw [szInsS_small l 1048576 (by omega) (by omega) (by omega), if_neg (by omega), Option.bind_some, if_pos (by omega)]

end Go.Proofs.Ytomehbmijdjjfaa.Pure
