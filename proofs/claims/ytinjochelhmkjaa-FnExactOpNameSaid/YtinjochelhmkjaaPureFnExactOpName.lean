/- For every int, the program's OpName gives what the reference's gives: no condition. -/
import Derived.Test.YtinjochelhmkjaaPFnExactOpNamex1
set_option linter.unusedVariables false
set_option linter.unusedSimpArgs false
namespace Go.Proofs.Ytinjochelhmkjaa.Pure
open Go.RowKit Go.Proofs.Ytinjochelhmkjaa.PFnExactOpName Go.Proofs.YtinjochelhmkjaaW.PrintWords Go.Proofs.YtinjochelhmkjaaW.PrintLast

theorem FnExactOpName : laws_FnExactOpName.Pure := by
  intro a _
  have e : ∀ x, spec_l01In.f x 0 16 = impl_within.f x 0 16 := fun _ => rfl
  unfold laws_FnExactOpName.f spec_OpName.f impl_OpName.f impl_opNames.f
  rw [e]
  unfold impl_within.f
  by_cases h : a ≥ 0
  · by_cases h2 : a ≤ 16
    · have h3 : a < 17 := by omega
      have h0 : 0 ≤ a := h
      simp [h, h2, h0, h3]
    · simp [h, h2]
  · simp [h]

end Go.Proofs.Ytinjochelhmkjaa.Pure
