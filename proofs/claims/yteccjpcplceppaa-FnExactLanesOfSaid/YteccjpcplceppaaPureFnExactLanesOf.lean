/- For every int, the program's LanesOf gives what the reference's gives, in memory that it shares with no other result: no condition. -/
import Derived.Test.YteccjpcplceppaaHFnExactLanesOfStmt
import Derived.Test.YteccjpcplceppaaAid
import Derived.Test.YteccjpcplceppaaLoopAid
import Derived.Test.YteccjpcplceppaaListI
import Derived.Test.YteccjpcplceppaaMarkI
set_option linter.unusedVariables false
set_option linter.unusedSimpArgs false
namespace Go.Proofs.Yteccjpcplceppaa.Pure
open Go.RowKit Go.Proofs.Yteccjpcplceppaa.H Go.Proofs.YteccjpcplceppaaW.PrintWords Go.Proofs.YteccjpcplceppaaW.PrintLast Go.Proofs.Yteccjpcplceppaa.Aid

theorem hasLane_same (a b : Int) : spec_HasLane.f a b = impl_HasLane.f a b := by
  unfold spec_HasLane.f impl_HasLane.f impl_isLane.f
  have e : spec_IsMask.f a = impl_IsMask.f a := rfl
  have e2 : spec_l01In.f b 0 7 = impl_within.f b 0 7 := rfl
  rw [e, e2]
  cases impl_within.f b 0 7 <;> rfl
theorem lanes_same : ∀ k a s i, spec_LanesOf.l0 k a s i = impl_LanesOf.l0 k a s i := by
  intro k
  induction k with
  | zero => intro a s i; rfl
  | succ k ih =>
    intro a s i
    simp only [spec_LanesOf.l0, impl_LanesOf.l0, hasLane_same, ih]
theorem hasLane_some (a i : Int) (h : 0 ≤ i) : ∃ b, impl_HasLane.f a i = some b := by
  unfold impl_HasLane.f impl_isLane.f impl_IsMask.f
  have s : ∀ x y z, ∃ r, impl_within.f x y z = some r := fun x y z => by unfold impl_within.f; split <;> exact ⟨_, rfl⟩
  obtain ⟨r, h1⟩ := s a 0 255
  obtain ⟨q, h2⟩ := s i 0 7
  rw [h1, h2]
  cases r <;> cases q <;> simp [h]
theorem lanes_ends (a : Int) : ∃ r, r.length ≤ 8 ∧ Ev (fun k => impl_LanesOf.f k a) r := by
  have h := loop_ev (fun k n (s : List Int) => impl_LanesOf.l0 k a s (n : Int)) 8 (fun n s => s.length ≤ n) (fun r => r.length ≤ 8)
    (fun n s hn hI => by
      obtain ⟨b, hb⟩ := hasLane_some a (n : Int) (by omega)
      cases b with
      | true =>
        refine Or.inl ⟨s ++ [(n : Int)], by simp; omega, 0, fun k _ => ?_⟩
        simp only [impl_LanesOf.l0]
        rw [if_pos (by omega), hb, Option.bind_some, if_pos rfl, if_pos (by omega), wrap_succ hn (by omega)]
      | false =>
        refine Or.inl ⟨s, by omega, 0, fun k _ => ?_⟩
        simp only [impl_LanesOf.l0]
        rw [if_pos (by omega), hb, Option.bind_some, if_neg (by decide), wrap_succ hn (by omega)])
    (fun s hI => ⟨s, hI, 0, fun k _ => by
      simp only [impl_LanesOf.l0]
      rw [if_neg (by omega)]⟩) 0 [] (Nat.zero_le _) (by simp)
  exact h
theorem FnExactLanesOf : laws_FnExactLanesOf.PureH := by
  intro a _
  obtain ⟨r, hr, K1, h1⟩ := lanes_ends a
  obtain ⟨K2, h2⟩ := eqIntS_same r (by omega)
  obtain ⟨K3, h3⟩ := markIntS_ev r (by omega)
  obtain ⟨K4, h4⟩ := heldIntS_ev r.length (by omega)
  have h5 : ∀ k, spec_LanesOf.f k a = impl_LanesOf.f k a := fun k => lanes_same k a _ _
  refine ⟨K1 + K2 + K3 + K4, ?_⟩
  have e1 := h1 (K1 + K2 + K3 + K4) (by omega)
  have e2 := h2 (K1 + K2 + K3 + K4) (by omega)
  have e3 := h3 (K1 + K2 + K3 + K4) (by omega)
  have e4 := h4 (K1 + K2 + K3 + K4) (by omega)
  unfold laws_FnExactLanesOf.f
  simp only [h5, e1, e2, e3, e4, Option.bind_some, if_true]
  rw [if_neg (by omega), if_neg (by omega)]

end Go.Proofs.Yteccjpcplceppaa.Pure
