/- For every instruction of four ints, the program's IsLocal gives what the reference's gives: no condition. -/
import Derived.Test.YtinjochelhmkjaaHIFnExactIsLocalStmt
set_option linter.unusedVariables false
set_option linter.unusedSimpArgs false
namespace Go.Proofs.Ytinjochelhmkjaa.Pure
open Go.RowKit Go.Proofs.Ytinjochelhmkjaa.HI Go.Proofs.YtinjochelhmkjaaW.PrintWords Go.Proofs.YtinjochelhmkjaaW.PrintLast

theorem FnExactIsLocal : laws_FnExactIsLocal.PureH := by
  intro a b c d _ _ _ _
  unfold laws_FnExactIsLocal.f laws_toIns.f spec_IsLocal.f impl_IsLocal.f
  have e : ∀ x, spec_l01In.f x 0 12 = impl_within.f x 0 12 := fun _ => rfl
  have s : ∃ r, impl_within.f a 0 12 = some r := by unfold impl_within.f; split <;> exact ⟨_, rfl⟩
  obtain ⟨r, h⟩ := s
  simp [e, h]

end Go.Proofs.Ytinjochelhmkjaa.Pure
