/- For every program of at most 2^20 instructions and every two ints, the program's IsAfter gives what the reference's gives and leaves the argument as it was; of a longer one the law asks nothing. -/
import Derived.Test.YtbkgklkiennpbaaHIFnExactIsAfterStmt
import Derived.Test.YtbkgklkiennpbaaKitHI
set_option linter.unusedVariables false
set_option linter.unusedSimpArgs false
namespace Go.Proofs.Ytbkgklkiennpbaa.Pure
open Go.RowKit Go.Proofs.Ytbkgklkiennpbaa.HI Go.Proofs.YtbkgklkiennpbaaW.PrintWords Go.Proofs.YtbkgklkiennpbaaW.PrintLast Go.Proofs.Ytbkgklkiennpbaa.Aid

theorem isAfterV_ev (l : List S52) (a b : Int) : Ev (fun k => impl_IsAfter.f k l a b) ((progB l && inB a 0 (l.length : Int)) && inB b 0 (l.length : Int) && aftB l a b) := by
  cases hp : progB l with
  | false =>
    refine Ev.congr (fun k => ?_) (ev_some _)
    unfold impl_IsAfter.f
    rw [isNode_val, hp]
    rfl
  | true =>
    cases ha : inB a 0 (l.length : Int) with
    | false =>
      refine Ev.congr (fun k => ?_) (ev_some _)
      unfold impl_IsAfter.f
      rw [isNode_val, hp, ha]
      rfl
    | true =>
      have ha' := inB_iff.1 ha
      obtain ⟨K, hK⟩ := isAfter_ev hp b ha'.1 ha'.2
      refine ⟨K, fun k hk => ?_⟩
      have hk' : impl_isAfter.f k l a b = some (aftB l a b) := hK k hk
      show impl_IsAfter.f k l a b = some _
      unfold impl_IsAfter.f
      rw [isNode_val, hp, ha, Option.bind_some, if_pos (show (true && true) = true from rfl), isNode_val, hp, hk']
      cases inB b 0 (l.length : Int) <;> rfl
theorem specIsAfterV_ev (l : List S52) (hl : l.length ≤ 1048576) (a b : Int) : Ev (fun k => spec_IsAfter.f k l a b) ((progB l && inB a 0 (l.length : Int)) && inB b 0 (l.length : Int) && aftB l a b) := by
  obtain ⟨K0, h0⟩ := specOk_ev l hl a
  obtain ⟨K1, h1⟩ := specReachesExit_ev l hl a
  by_cases h : (progB l && inB a 0 (l.length : Int)) = true
  · have h' := h
    rw [Bool.and_eq_true, inB_iff] at h'
    obtain ⟨K2, h2⟩ := specAfter_ev (b := b) h'.1 h'.2.1 h'.2.2
    refine ⟨K0 + K1 + K2, fun k hk => ?_⟩
    have e0 : spec_l07Ok.f k l a = some (progB l && inB a 0 (l.length : Int)) := h0 k (by omega)
    have e1 : spec_ReachesExit.f k l a = some (exitB l a) := h1 k (by omega)
    have e2 : spec_l08After.f k l a b = some (!rdOf false (rset (nxt l) b [a] l.length) (l.length : Int)) := h2 k (by omega)
    show spec_IsAfter.f k l a b = some _
    unfold spec_IsAfter.f
    rw [e0, Option.bind_some, if_pos h, l01In_val, Option.bind_some, e1, h]
    unfold exitB aftB
    rw [if_pos h]
    simp only [Option.bind_some, e2]
    cases inB b 0 (l.length : Int) <;> cases rdOf false (rset (nxt l) (-1) [a] l.length) (l.length : Int) <;> simp
  · refine ⟨K0, fun k hk => ?_⟩
    have e0 : spec_l07Ok.f k l a = some (progB l && inB a 0 (l.length : Int)) := h0 k (by omega)
    show spec_IsAfter.f k l a b = some _
    unfold spec_IsAfter.f
    have hf : (progB l && inB a 0 (l.length : Int)) = false := by simpa using h
    rw [e0, hf]
    rfl
theorem FnExactIsAfter : laws_FnExactIsAfter.PureH := by
  intro l a b h8 _ _ _
  by_cases hl : l.length ≤ 1048576
  · have hlp : (l.map conv).length ≤ 1048576 := by simpa using hl
    obtain ⟨K0, h0⟩ := isAfterV_ev (l.map conv) a b
    obtain ⟨K2, h2⟩ := specIsAfterV_ev (l.map conv) hlp a b
    obtain ⟨K1, h1⟩ := toInsS_ev l hl
    obtain ⟨K3, h3⟩ := eqInsS_same (l.map conv) hlp
    refine ⟨K0 + K1 + K2 + K3, ?_⟩
    have e0 := h0 (K0 + K1 + K2 + K3) (by omega)
    have e1 := h1 (K0 + K1 + K2 + K3) (by omega)
    have e2 := h2 (K0 + K1 + K2 + K3) (by omega)
    have e3 := h3 (K0 + K1 + K2 + K3) (by omega)
    simp only at e0 e1 e2 e3
    unfold laws_FnExactIsAfter.f
    rw [szInsS_small l 1048576 (by omega) (by omega) (by omega), if_pos (by omega), Option.bind_some, if_neg (by omega)]
    simp only [e0, e1, e2, e3, Option.bind_some, if_true]
    rw [if_neg (by simp)]
  · refine ⟨0, ?_⟩
    unfold laws_FnExactIsAfter.f
    rw [szInsS_small l 1048576 (by omega) (by omega) (by omega), if_neg (by omega), Option.bind_some, if_pos (by omega)]

end Go.Proofs.Ytbkgklkiennpbaa.Pure
