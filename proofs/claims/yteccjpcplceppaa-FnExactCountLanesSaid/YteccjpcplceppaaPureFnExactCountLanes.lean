/- For every int, the program's CountLanes gives what the reference's gives: no condition. -/
import Derived.Test.YteccjpcplceppaaHFnExactCountLanesStmt
import Derived.Test.YteccjpcplceppaaAid
set_option linter.unusedVariables false
set_option linter.unusedSimpArgs false
namespace Go.Proofs.Yteccjpcplceppaa.Pure
open Go.RowKit Go.Proofs.Yteccjpcplceppaa.H Go.Proofs.YteccjpcplceppaaW.PrintWords Go.Proofs.YteccjpcplceppaaW.PrintLast Go.Proofs.Yteccjpcplceppaa.Aid

theorem count_at : ∀ x : Fin 256, spec_CountLanes.l0 9 (x.val : Int) 0 0 = (impl_CountLanes.f (x.val : Int)) := by decide +kernel
theorem FnExactCountLanes : laws_FnExactCountLanes.PureH := by
  intro a _
  refine ⟨9, ?_⟩
  unfold laws_FnExactCountLanes.f spec_CountLanes.f
  by_cases h : 0 ≤ a ∧ a ≤ 255
  · have e : spec_IsMask.f a = some true := by unfold spec_IsMask.f spec_l01In.f; rw [if_pos h.1]; simp [h.2]
    have hx := count_at ⟨a.toNat, by omega⟩
    simp only [Int.toNat_of_nonneg h.1] at hx
    rw [e, Option.bind_some, if_pos rfl, hx]
    have hs : ∃ r, impl_CountLanes.f a = some r := by
      unfold impl_CountLanes.f bits_OnesCount.f bits_OnesCount64.f
      have e : impl_IsMask.f a = some true := by unfold impl_IsMask.f impl_within.f; rw [if_pos h.1]; simp [h.2]
      rw [e]
      exact ⟨_, rfl⟩
    obtain ⟨r, hr⟩ := hs
    rw [hr]
    simp
  · have e : impl_IsMask.f a = some false := by
      unfold impl_IsMask.f impl_within.f
      by_cases h0 : a ≥ 0
      · rw [if_pos h0]; simp; omega
      · rw [if_neg h0]; rfl
    have e' : spec_IsMask.f a = some false := e
    unfold impl_CountLanes.f
    rw [e, e']
    simp

end Go.Proofs.Yteccjpcplceppaa.Pure
