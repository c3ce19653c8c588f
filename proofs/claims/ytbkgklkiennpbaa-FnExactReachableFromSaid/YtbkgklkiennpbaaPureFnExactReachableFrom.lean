/- For every program of at most 2^20 instructions and every int, the program's ReachableFrom gives what the reference's gives, in memory of its own, and leaves the argument as it was; of a longer one the law asks nothing. -/
import Derived.Test.YtbkgklkiennpbaaHRFnExactReachableFromStmt
import Derived.Test.YtbkgklkiennpbaaKitHR
import Derived.Test.YtbkgklkiennpbaaKitTHR
set_option linter.unusedVariables false
set_option linter.unusedSimpArgs false
namespace Go.Proofs.Ytbkgklkiennpbaa.Pure
open Go.RowKit Go.Proofs.Ytbkgklkiennpbaa.HR Go.Proofs.YtbkgklkiennpbaaW.PrintWords Go.Proofs.YtbkgklkiennpbaaW.PrintLast Go.Proofs.Ytbkgklkiennpbaa.Aid

open Classical in
noncomputable def rfrom (l : List S52) (a : Int) : List Int := if (progB l && inB a 0 (l.length : Int)) = true then idxTo (rset (nxt l) (-1) [a] l.length) (l.length + 1) else []
theorem rfrom_len (l : List S52) (a : Int) : (rfrom l a).length ≤ 33 := by
  unfold rfrom
  split
  · rename_i h
    rw [Bool.and_eq_true] at h
    have := prog_small h.1
    exact Nat.le_trans (idxTo_len _ _) (by omega)
  · simp
theorem reachableFrom_ev (l : List S52) (a : Int) : Ev (fun k => impl_ReachableFrom.f k l a) (rfrom l a) := by
  unfold rfrom
  by_cases h : (progB l && inB a 0 (l.length : Int)) = true
  · have h' := h
    rw [Bool.and_eq_true, inB_iff] at h'
    have hs := prog_small h'.1
    obtain ⟨K1, h1⟩ := reached_ev h'.1 [a] (-1) (by simpa using h'.2) (by simp)
    have hl := rset_len (nxt l) (-1) [a] l.length
    obtain ⟨K2, h2⟩ := trues_ev (rset (nxt l) (-1) [a] l.length) (by omega)
    refine ⟨K1 + K2, fun k hk => ?_⟩
    have e1 : impl_reached.f k l [a] (-1) = some (rset (nxt l) (-1) [a] l.length) := h1 k (by omega)
    have e2 : impl_trues.f k (rset (nxt l) (-1) [a] l.length) = some (idxTo (rset (nxt l) (-1) [a] l.length) (rset (nxt l) (-1) [a] l.length).length) := h2 k (by omega)
    show impl_ReachableFrom.f k l a = some _
    unfold impl_ReachableFrom.f
    rw [isNode_val, Option.bind_some, if_pos h, e1, Option.bind_some, e2, Option.bind_some, if_pos h, hl]
  · refine Ev.congr (fun k => ?_) (ev_some _)
    unfold impl_ReachableFrom.f
    rw [isNode_val, Option.bind_some, if_neg h, if_neg h]
theorem specReachableFrom_ev (l : List S52) (hl : l.length ≤ 1048576) (a : Int) : Ev (fun k => spec_ReachableFrom.f k l a) (rfrom l a) := by
  obtain ⟨K0, h0⟩ := specOk_ev l hl a
  unfold rfrom
  by_cases h : (progB l && inB a 0 (l.length : Int)) = true
  · have h' := h
    rw [Bool.and_eq_true, inB_iff] at h'
    have hs := prog_small h'.1
    obtain ⟨K1, h1⟩ := specReach_ev h'.1 [a] (by simpa using h'.2) (by simp)
    have hl := rset_len (nxt l) (-1) [a] l.length
    obtain ⟨K2, h2⟩ := marked_ev (rset (nxt l) (-1) [a] l.length) (by omega)
    refine ⟨K0 + K1 + K2, fun k hk => ?_⟩
    have e0 : spec_l07Ok.f k l a = some (progB l && inB a 0 (l.length : Int)) := h0 k (by omega)
    have e1 : spec_l07Reach.f k l [a] = some (rset (nxt l) (-1) [a] l.length) := h1 k (by omega)
    have e2 : spec_l07Marked.f k (rset (nxt l) (-1) [a] l.length) = some (idxTo (rset (nxt l) (-1) [a] l.length) (rset (nxt l) (-1) [a] l.length).length) := h2 k (by omega)
    show spec_ReachableFrom.f k l a = some _
    unfold spec_ReachableFrom.f
    rw [e0, Option.bind_some, if_pos h, e1, Option.bind_some, e2, Option.bind_some, if_pos h, hl]
  · refine ⟨K0, fun k hk => ?_⟩
    have e0 : spec_l07Ok.f k l a = some (progB l && inB a 0 (l.length : Int)) := h0 k (by omega)
    show spec_ReachableFrom.f k l a = some _
    unfold spec_ReachableFrom.f
    rw [e0, Option.bind_some, if_neg h, if_neg h]
theorem FnExactReachableFrom : laws_FnExactReachableFrom.PureH := by
  intro l a h8 _ _
  by_cases hl : l.length ≤ 1048576
  · have hlp : (l.map conv).length ≤ 1048576 := by simpa using hl
    obtain ⟨K0, h0⟩ := reachableFrom_ev (l.map conv) a
    obtain ⟨K2, h2⟩ := specReachableFrom_ev (l.map conv) hlp a
    have hRl := rfrom_len (l.map conv) a
    generalize rfrom (l.map conv) a = R at h0 h2 hRl
    obtain ⟨K1, h1⟩ := toInsS_ev l hl
    obtain ⟨K3, h3⟩ := eqInsS_same (l.map conv) hlp
    obtain ⟨K4, h4⟩ := eqIntS_same R (by omega)
    obtain ⟨m, hm, K5, h5⟩ := markInsS_ev (l.map conv) hlp
    obtain ⟨K6, h6⟩ := markIntS_ev R (by omega)
    obtain ⟨K7, h7⟩ := heldIntS_ev R.length (by omega)
    refine ⟨K0 + K1 + K2 + K3 + K4 + K5 + K6 + K7 + 1, ?_⟩
    have e0 := h0 (K0 + K1 + K2 + K3 + K4 + K5 + K6 + K7 + 1) (by omega)
    have e1 := h1 (K0 + K1 + K2 + K3 + K4 + K5 + K6 + K7 + 1) (by omega)
    have e2 := h2 (K0 + K1 + K2 + K3 + K4 + K5 + K6 + K7 + 1) (by omega)
    have e3 := h3 (K0 + K1 + K2 + K3 + K4 + K5 + K6 + K7 + 1) (by omega)
    have e4 := h4 (K0 + K1 + K2 + K3 + K4 + K5 + K6 + K7 + 1) (by omega)
    have e5 := h5 (K0 + K1 + K2 + K3 + K4 + K5 + K6 + K7 + 1) (by omega)
    have f0 := h0 (K0 + K1 + K2 + K3 + K4 + K5 + K6 + K7) (by omega)
    have f1 := h1 (K0 + K1 + K2 + K3 + K4 + K5 + K6 + K7) (by omega)
    have f4 := h4 (K0 + K1 + K2 + K3 + K4 + K5 + K6 + K7) (by omega)
    have f6 := h6 (K0 + K1 + K2 + K3 + K4 + K5 + K6 + K7) (by omega)
    have f7 := h7 (K0 + K1 + K2 + K3 + K4 + K5 + K6 + K7) (by omega)
    simp only at e0 e1 e2 e3 e4 e5 f0 f1 f4 f6 f7
    unfold laws_FnExactReachableFrom.f
    rw [szInsS_small l 1048576 (by omega) (by omega) (by omega), if_pos (by omega), Option.bind_some, if_neg (by omega)]
    simp only [e0, e1, e2, e3, e4, e5, Option.bind_some, if_true]
    rw [if_neg (by omega)]
    simp only [laws_FnExactReachableFrom.j0, f0, f1, f4, f6, f7, Option.bind_some, if_true, Bool.not_true]
    rw [if_neg (by decide), if_neg (by omega), if_neg (by omega)]
  · refine ⟨0, ?_⟩
    unfold laws_FnExactReachableFrom.f
    rw [szInsS_small l 1048576 (by omega) (by omega) (by omega), if_neg (by omega), Option.bind_some, if_pos (by omega)]

end Go.Proofs.Ytbkgklkiennpbaa.Pure
