/- For every program of at most 2^20 instructions and every int, the program's NextOf gives what the reference's gives, in memory of its own, and leaves the argument as it was; of a longer one the law asks nothing. -/
import Derived.Test.YtbkgklkiennpbaaHNFnExactNextOfStmt
import Derived.Test.YtbkgklkiennpbaaAid
import Derived.Test.YtbkgklkiennpbaaLoopAid
import Derived.Test.YtbkgklkiennpbaaListSHN
import Derived.Test.YtbkgklkiennpbaaMarkSHN
import Derived.Test.YtbkgklkiennpbaaMarkIHN
import Derived.Test.YtbkgklkiennpbaaEqIHN
import Derived.Test.YtbkgklkiennpbaaFlowSHN
set_option linter.unusedVariables false
set_option linter.unusedSimpArgs false
namespace Go.Proofs.Ytbkgklkiennpbaa.Pure
open Go.RowKit Go.Proofs.Ytbkgklkiennpbaa.HN Go.Proofs.YtbkgklkiennpbaaW.PrintWords Go.Proofs.YtbkgklkiennpbaaW.PrintLast Go.Proofs.Ytbkgklkiennpbaa.Aid

theorem nextOf_val (l : List S52) (hl : l.length ≤ 1048576) (a : Int) : impl_NextOf.f l a = some (if (progB l && inB a 0 (l.length : Int)) = true then nxt l a else []) := by
  unfold impl_NextOf.f
  rw [isNode_val, Option.bind_some]
  by_cases h : (progB l && inB a 0 (l.length : Int)) = true
  · rw [if_pos h, if_pos h]
    rw [Bool.and_eq_true, inB_iff] at h
    rw [next_val l hl h.2.1 h.2.2]; rfl
  · rw [if_neg h, if_neg h]
theorem specNextOf_ev (l : List S52) (hl : l.length ≤ 1048576) (a : Int) : Ev (fun k => spec_NextOf.f k l a) (if (progB l && inB a 0 (l.length : Int)) = true then nxt l a else []) := by
  obtain ⟨K1, h1⟩ := specOk_ev l hl a
  by_cases h : (progB l && inB a 0 (l.length : Int)) = true
  · have h' := h
    rw [Bool.and_eq_true, inB_iff] at h'
    obtain ⟨K2, h2⟩ := specNext_ev l hl h'.2.1 h'.2.2
    refine ⟨K1 + K2, fun k hk => ?_⟩
    have e1 : spec_l07Ok.f k l a = some (progB l && inB a 0 (l.length : Int)) := h1 k (by omega)
    have e2 : spec_l07Next.f k l a = some (nxt l a) := h2 k (by omega)
    show spec_NextOf.f k l a = some _
    unfold spec_NextOf.f
    rw [e1, Option.bind_some, if_pos h, e2, if_pos h]; rfl
  · refine ⟨K1, fun k hk => ?_⟩
    have e1 : spec_l07Ok.f k l a = some (progB l && inB a 0 (l.length : Int)) := h1 k (by omega)
    show spec_NextOf.f k l a = some _
    unfold spec_NextOf.f
    rw [e1, Option.bind_some, if_neg h, if_neg h]
theorem FnExactNextOf : laws_FnExactNextOf.PureH := by
  intro l a h8 _ _
  by_cases hl : l.length ≤ 1048576
  · have hlp : (l.map conv).length ≤ 1048576 := by simpa using hl
    generalize hR : (if (progB (l.map conv) && inB a 0 ((l.map conv).length : Int)) = true then nxt (l.map conv) a else []) = R
    have hRl : R.length ≤ 2 := by
      rw [← hR]
      split
      · rename_i h
        rw [Bool.and_eq_true, inB_iff] at h
        exact (nxt_ok h.1 a h.2.1 h.2.2).2
      · simp
    obtain ⟨K1, h1⟩ := toInsS_ev l hl
    obtain ⟨K2, h2⟩ := specNextOf_ev (l.map conv) hlp a
    obtain ⟨K3, h3⟩ := eqInsS_same (l.map conv) hlp
    obtain ⟨K4, h4⟩ := eqIntS_same R (by omega)
    obtain ⟨m, hm, K5, h5⟩ := markInsS_ev (l.map conv) hlp
    obtain ⟨K6, h6⟩ := markIntS_ev R (by omega)
    obtain ⟨K7, h7⟩ := heldIntS_ev R.length (by omega)
    have hi := nextOf_val (l.map conv) hlp a
    rw [hR] at h2 hi
    refine ⟨K1 + K2 + K3 + K4 + K5 + K6 + K7 + 1, ?_⟩
    have e1 := h1 (K1 + K2 + K3 + K4 + K5 + K6 + K7 + 1) (by omega)
    have e2 := h2 (K1 + K2 + K3 + K4 + K5 + K6 + K7 + 1) (by omega)
    have e3 := h3 (K1 + K2 + K3 + K4 + K5 + K6 + K7 + 1) (by omega)
    have e4 := h4 (K1 + K2 + K3 + K4 + K5 + K6 + K7 + 1) (by omega)
    have e5 := h5 (K1 + K2 + K3 + K4 + K5 + K6 + K7 + 1) (by omega)
    have f1 := h1 (K1 + K2 + K3 + K4 + K5 + K6 + K7) (by omega)
    have f4 := h4 (K1 + K2 + K3 + K4 + K5 + K6 + K7) (by omega)
    have f6 := h6 (K1 + K2 + K3 + K4 + K5 + K6 + K7) (by omega)
    have f7 := h7 (K1 + K2 + K3 + K4 + K5 + K6 + K7) (by omega)
    simp only at e1 e2 e3 e4 e5 f1 f4 f6 f7
    unfold laws_FnExactNextOf.f
    rw [szInsS_small l 1048576 (by omega) (by omega) (by omega), if_pos (by omega), Option.bind_some, if_neg (by omega)]
    simp only [e1, e2, e3, e4, e5, hi, Option.bind_some, if_true]
    rw [if_neg (by omega)]
    simp only [laws_FnExactNextOf.j0, f1, f4, f6, f7, hi, Option.bind_some, if_true, Bool.not_true]
    rw [if_neg (by decide), if_neg (by omega), if_neg (by omega)]
  · refine ⟨0, ?_⟩
    unfold laws_FnExactNextOf.f
    rw [szInsS_small l 1048576 (by omega) (by omega) (by omega), if_neg (by omega), Option.bind_some, if_pos (by omega)]

end Go.Proofs.Ytbkgklkiennpbaa.Pure
