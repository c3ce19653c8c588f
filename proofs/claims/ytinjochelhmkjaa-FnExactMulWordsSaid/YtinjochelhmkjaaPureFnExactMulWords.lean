/- For every two ints, the program's MulWords gives what the reference's gives: no condition. -/
import Derived.Test.YtinjochelhmkjaaPFnExactMulWordsx1
import Derived.Test.YtinjochelhmkjaaAid
set_option linter.unusedVariables false
set_option linter.unusedSimpArgs false
namespace Go.Proofs.Ytinjochelhmkjaa.Pure
open Go.RowKit Go.Proofs.Ytinjochelhmkjaa.PFnExactMulWords Go.Proofs.YtinjochelhmkjaaW.PrintWords Go.Proofs.YtinjochelhmkjaaW.PrintLast Go.Proofs.Ytinjochelhmkjaa.Aid

theorem word_of {a : Int} (h : impl_IsWord.f a = some true) : 0 ≤ a ∧ a ≤ 65535 := by
  unfold impl_IsWord.f impl_within.f at h
  by_cases h0 : a ≥ 0
  · simp [h0] at h; omega
  · simp [h0] at h
theorem FnExactMulWords : laws_FnExactMulWords.Pure := by
  intro a b _ _
  have e : ∀ x, spec_IsWord.f x = impl_IsWord.f x := fun _ => rfl
  have s : ∀ x, ∃ r, impl_IsWord.f x = some r := fun x => by unfold impl_IsWord.f impl_within.f; split <;> exact ⟨_, rfl⟩
  unfold laws_FnExactMulWords.f spec_MulWords.f impl_MulWords.f impl_wrapped.f spec_WrapWord.f impl_WrapWord.f
  simp only [e]
  obtain ⟨r, h1⟩ := s a
  obtain ⟨q, h2⟩ := s b
  rw [h1, h2]
  cases r <;> cases q <;> simp
  rw [and_65535, mod_word]

end Go.Proofs.Ytinjochelhmkjaa.Pure
