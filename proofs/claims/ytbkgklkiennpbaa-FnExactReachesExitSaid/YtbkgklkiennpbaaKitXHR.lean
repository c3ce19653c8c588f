import Derived.Test.YtbkgklkiennpbaaKitHR
import Derived.Test.YtbkgklkiennpbaaHR13
/- Whether the exit is reached, as the program tells it. -/
set_option linter.unusedVariables false
set_option linter.unusedSimpArgs false
namespace Go.Proofs.Ytbkgklkiennpbaa.HR
open Go Go.RowKit Go.Proofs.YtbkgklkiennpbaaW.PrintWords Go.Proofs.YtbkgklkiennpbaaW.PrintLast Go.Proofs.Ytbkgklkiennpbaa.Aid

noncomputable def exitB (l : List S52) (a : Int) : Bool := if (progB l && inB a 0 (l.length : Int)) = true then rdOf false (rset (nxt l) (-1) [a] l.length) (l.length : Int) else false
theorem exitIn_ev {l : List S52} (hp : progB l = true) {a : Int} (h0 : 0 ≤ a) (h1 : a ≤ (l.length : Int)) : Ev (fun k => impl_reachesExit.f k l a) (rdOf false (rset (nxt l) (-1) [a] l.length) (l.length : Int)) := by
  obtain ⟨K1, h1⟩ := reached_ev hp [a] (-1) (by simpa using ⟨h0, h1⟩) (by simp)
  have hl := rset_len (nxt l) (-1) [a] l.length
  refine ⟨K1, fun k hk => ?_⟩
  have e1 : impl_reached.f k l [a] (-1) = some (rset (nxt l) (-1) [a] l.length) := h1 k (by omega)
  show impl_reachesExit.f k l a = some _
  unfold impl_reachesExit.f
  rw [e1, Option.bind_some, if_pos (by omega), if_pos (by omega)]
end Go.Proofs.Ytbkgklkiennpbaa.HR
/- Whether the exit is reached, as the program tells it. -/
set_option linter.unusedVariables false
set_option linter.unusedSimpArgs false
namespace Go.Proofs.Ytbkgklkiennpbaa.HR
open Go Go.RowKit Go.Proofs.YtbkgklkiennpbaaW.PrintWords Go.Proofs.YtbkgklkiennpbaaW.PrintLast Go.Proofs.Ytbkgklkiennpbaa.Aid

theorem reachesExit_ev (l : List S52) (a : Int) : Ev (fun k => impl_ReachesExit.f k l a) (exitB l a) := by
  unfold exitB
  by_cases h : (progB l && inB a 0 (l.length : Int)) = true
  · have h' := h
    rw [Bool.and_eq_true, inB_iff] at h'
    obtain ⟨K1, h1⟩ := exitIn_ev h'.1 h'.2.1 h'.2.2
    refine ⟨K1, fun k hk => ?_⟩
    have e1 : impl_reachesExit.f k l a = some (rdOf false (rset (nxt l) (-1) [a] l.length) (l.length : Int)) := h1 k (by omega)
    show impl_ReachesExit.f k l a = some _
    unfold impl_ReachesExit.f
    rw [isNode_val, Option.bind_some, if_pos h, e1, Option.bind_some, if_pos h]
  · refine Ev.congr (fun k => ?_) (ev_some _)
    unfold impl_ReachesExit.f
    rw [isNode_val, Option.bind_some, if_neg h, if_neg h]
end Go.Proofs.Ytbkgklkiennpbaa.HR
/- Whether the exit is reached, as the reference tells it. -/
set_option linter.unusedVariables false
set_option linter.unusedSimpArgs false
namespace Go.Proofs.Ytbkgklkiennpbaa.HR
open Go Go.RowKit Go.Proofs.YtbkgklkiennpbaaW.PrintWords Go.Proofs.YtbkgklkiennpbaaW.PrintLast Go.Proofs.Ytbkgklkiennpbaa.Aid

theorem specReachesExit_ev (l : List S52) (hl : l.length ≤ 1048576) (a : Int) : Ev (fun k => spec_ReachesExit.f k l a) (exitB l a) := by
  obtain ⟨K0, h0⟩ := specOk_ev l hl a
  unfold exitB
  by_cases h : (progB l && inB a 0 (l.length : Int)) = true
  · have h' := h
    rw [Bool.and_eq_true, inB_iff] at h'
    obtain ⟨K1, h1⟩ := specReach_ev h'.1 [a] (by simpa using h'.2) (by simp)
    have hl := rset_len (nxt l) (-1) [a] l.length
    refine ⟨K0 + K1, fun k hk => ?_⟩
    have e0 : spec_l07Ok.f k l a = some (progB l && inB a 0 (l.length : Int)) := h0 k (by omega)
    have e1 : spec_l07Reach.f k l [a] = some (rset (nxt l) (-1) [a] l.length) := h1 k (by omega)
    show spec_ReachesExit.f k l a = some _
    unfold spec_ReachesExit.f
    rw [e0, Option.bind_some, if_pos h, e1, Option.bind_some, if_pos (by omega), if_pos (by omega), if_pos h]
  · refine ⟨K0, fun k hk => ?_⟩
    have e0 : spec_l07Ok.f k l a = some (progB l && inB a 0 (l.length : Int)) := h0 k (by omega)
    show spec_ReachesExit.f k l a = some _
    unfold spec_ReachesExit.f
    rw [e0, Option.bind_some, if_neg h, if_neg h]
end Go.Proofs.Ytbkgklkiennpbaa.HR
