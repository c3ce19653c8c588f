/- For every two ints, the program's SubWords gives what the reference's gives: no condition. -/
import Derived.Test.YteccjpcplceppaaHFnExactSubWordsStmt
import Derived.Test.YteccjpcplceppaaAid
set_option linter.unusedVariables false
set_option linter.unusedSimpArgs false
namespace Go.Proofs.Yteccjpcplceppaa.Pure
open Go.RowKit Go.Proofs.Yteccjpcplceppaa.H Go.Proofs.YteccjpcplceppaaW.PrintWords Go.Proofs.YteccjpcplceppaaW.PrintLast Go.Proofs.Yteccjpcplceppaa.Aid

theorem FnExactSubWords : laws_FnExactSubWords.PureH := by
  intro a b _ _
  have e : ∀ x, spec_IsWord.f x = impl_IsWord.f x := fun _ => rfl
  have s : ∀ x, ∃ r, impl_IsWord.f x = some r := fun x => by unfold impl_IsWord.f impl_within.f; split <;> exact ⟨_, rfl⟩
  unfold laws_FnExactSubWords.f spec_SubWords.f impl_SubWords.f impl_wrapped.f spec_WrapWord.f impl_WrapWord.f
  simp only [e]
  obtain ⟨r, h1⟩ := s a
  obtain ⟨q, h2⟩ := s b
  rw [h1, h2]
  cases r <;> cases q <;> simp
  rw [and_65535, mod_word]

end Go.Proofs.Yteccjpcplceppaa.Pure
