/- For every int, the program's IsMask gives what the reference's gives: no condition. -/
import Derived.Test.YtinjochelhmkjaaPFnExactIsMaskx1
set_option linter.unusedVariables false
set_option linter.unusedSimpArgs false
namespace Go.Proofs.Ytinjochelhmkjaa.Pure
open Go.RowKit Go.Proofs.Ytinjochelhmkjaa.PFnExactIsMask Go.Proofs.YtinjochelhmkjaaW.PrintWords Go.Proofs.YtinjochelhmkjaaW.PrintLast

theorem FnExactIsMask : laws_FnExactIsMask.Pure := by
  intro a _
  unfold laws_FnExactIsMask.f spec_IsMask.f impl_IsMask.f spec_l01In.f impl_within.f
  by_cases h : a ≥ 0 <;> simp [h]

end Go.Proofs.Ytinjochelhmkjaa.Pure
