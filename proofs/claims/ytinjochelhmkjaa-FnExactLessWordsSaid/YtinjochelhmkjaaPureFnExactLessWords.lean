/- For every two ints, the program's LessWords gives what the reference's gives: no condition. -/
import Derived.Test.YtinjochelhmkjaaPFnExactLessWordsx1
set_option linter.unusedVariables false
set_option linter.unusedSimpArgs false
namespace Go.Proofs.Ytinjochelhmkjaa.Pure
open Go.RowKit Go.Proofs.Ytinjochelhmkjaa.PFnExactLessWords Go.Proofs.YtinjochelhmkjaaW.PrintWords Go.Proofs.YtinjochelhmkjaaW.PrintLast

theorem FnExactLessWords : laws_FnExactLessWords.Pure := by
  intro a b _ _
  have e : ∀ x, spec_IsWord.f x = impl_IsWord.f x := fun _ => rfl
  have s : ∀ x, ∃ r, impl_IsWord.f x = some r := fun x => by unfold impl_IsWord.f impl_within.f; split <;> exact ⟨_, rfl⟩
  unfold laws_FnExactLessWords.f spec_LessWords.f impl_LessWords.f
  simp only [e]
  obtain ⟨r, h1⟩ := s a
  obtain ⟨q, h2⟩ := s b
  rw [h1, h2]
  cases r <;> cases q <;> simp
  by_cases h : a < b <;> simp [h]

end Go.Proofs.Ytinjochelhmkjaa.Pure
