/- For every three ints, the program's Clamp gives what the reference's gives: no condition. -/
import Derived.Test.YtinjochelhmkjaaPFnExactClampx1
set_option linter.unusedVariables false
set_option linter.unusedSimpArgs false
namespace Go.Proofs.Ytinjochelhmkjaa.Pure
open Go.RowKit Go.Proofs.Ytinjochelhmkjaa.PFnExactClamp Go.Proofs.YtinjochelhmkjaaW.PrintWords Go.Proofs.YtinjochelhmkjaaW.PrintLast

theorem FnExactClamp : laws_FnExactClamp.Pure := by
  intro n a b _ _ _
  refine ⟨1, ?_⟩
  unfold laws_FnExactClamp.f spec_Clamp.f impl_Clamp.f
  simp only [spec_Clamp.j0]
  unfold mn mx
  by_cases h1 : b < a
  · simp [h1]
  · by_cases h2 : n < a
    · have h3 : ¬ a < n := by omega
      simp [h1, h2, h3]
    · by_cases h3 : n > b
      · have h4 : a < n := by omega
        simp [h1, h2, h4, h3]
      · by_cases h4 : a < n
        · have h5 : ¬ b < n := by omega
          simp [h1, h2, h4, h3, h5]
        · have e : n = a := by omega
          subst e
          simp [h1, h3]

end Go.Proofs.Ytinjochelhmkjaa.Pure
