/- For every int, the program's IsWord gives what the reference's gives: no condition. -/
import Derived.Test.YtinjochelhmkjaaPFnExactIsWordx1
set_option linter.unusedVariables false
set_option linter.unusedSimpArgs false
namespace Go.Proofs.Ytinjochelhmkjaa.Pure
open Go.RowKit Go.Proofs.Ytinjochelhmkjaa.PFnExactIsWord Go.Proofs.YtinjochelhmkjaaW.PrintWords Go.Proofs.YtinjochelhmkjaaW.PrintLast

theorem FnExactIsWord : laws_FnExactIsWord.Pure := by
  intro a _
  unfold laws_FnExactIsWord.f spec_IsWord.f impl_IsWord.f spec_l01In.f impl_within.f
  by_cases h : a ≥ 0 <;> simp [h]

end Go.Proofs.Ytinjochelhmkjaa.Pure
